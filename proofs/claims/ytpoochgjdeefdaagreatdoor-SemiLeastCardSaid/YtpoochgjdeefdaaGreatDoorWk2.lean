/-
  Walks: what functions of the program do, over the abstract machine.
-/
import Derived.Test.YtpoochgjdeefdaaGreatDoorWk1
import Derived.Sort.Lot0
set_option linter.unusedVariables false
set_option maxRecDepth 20000
set_option maxHeartbeats 0
open Go Go.Abs Go.Proofs Go.Proofs.D
namespace Go.Proofs.D
def leafO(x:Node):Option Nat:=if x.key.sym.term=true then some 0 else none
def stepO(cost:List Nat)(Ns:List Node)(vs:List (Option Nat))(i:Nat):List (Option Nat):=match Ns[i]? with
 | some x=>if x.key.sym.term=true then vs else vs.set i (nodeO cost vs x)
 | none=>vs
def roundToO(cost:List Nat)(Ns:List Node)(vs:List (Option Nat)):Nat→List (Option Nat)
 | 0=>vs
 | i+1=>stepO cost Ns (roundToO cost Ns vs i) i
def startO(Ns:List Node):List (Option Nat):=Ns.map leafO
def valsO(cost:List Nat)(Ns:List Node):Nat→List (Option Nat)
 | 0=>startO Ns
 | k+1=>roundToO cost Ns (valsO cost Ns k) Ns.length
theorem stepO_len{cost:List Nat}{Ns:List Node}{vs:List (Option Nat)}{i:Nat}:(stepO cost Ns vs i).length=vs.length:=by
 unfold stepO
 split
 ·split<;>simp
 ·rfl
theorem roundToO_len{cost:List Nat}{Ns:List Node}{vs:List (Option Nat)}:∀(i:Nat),(roundToO cost Ns vs i).length=vs.length
 | 0=>rfl
 | i+1=>by show (stepO cost Ns _ i).length=_;rw[stepO_len,roundToO_len i]
theorem valsO_len{cost:List Nat}{Ns:List Node}:∀(k:Nat),(valsO cost Ns k).length=Ns.length
 | 0=>by simp[valsO,startO]
 | k+1=>by show (roundToO cost Ns _ _).length=_;rw[roundToO_len,valsO_len k]
structure RoundO(cost:List Nat)(Ns:List Node)(vs:List (Option Nat))(i:Nat)(cur:List (Option Nat))(ch:Bool):Prop where
 is:cur=roundToO cost Ns vs i
 same:ch=false→cur=vs
 diff:ch=true→∃j,j<i∧cur[j]?≠vs[j]?
theorem RoundO.stay{cost:List Nat}{Ns:List Node}{vs cur:List (Option Nat)}{i:Nat}{ch:Bool}(h:RoundO cost Ns vs i cur ch){x:Node}(hx:Ns[i]?=some x)(ht:x.key.sym.term=true):RoundO cost Ns vs (i+1) cur ch where
 is:=by show cur=stepO cost Ns _ i;unfold stepO;rw[hx];simp only;rw[if_pos ht];exact h.is
 same:=h.same
 diff:=fun e=>by obtain⟨j,h1,h2⟩:=h.diff e;exact⟨j,by omega,h2⟩
theorem RoundO.put{cost:List Nat}{Ns:List Node}{vs cur:List (Option Nat)}{i:Nat}{ch:Bool}(h:RoundO cost Ns vs i cur ch){x:Node}(hx:Ns[i]?=some x)(ht:x.key.sym.term=false){z:Option Nat}(hz:cur[i]?=some z):RoundO cost Ns vs (i+1) (cur.set i (nodeO cost cur x)) (ch||!decide (nodeO cost cur x=z)) where
 is:=by show _=stepO cost Ns _ i;unfold stepO;rw[hx];simp only;rw[if_neg (by simp[ht]),←h.is]
 same:=fun e=>by
  simp only[Bool.or_eq_false_iff,Bool.not_eq_false',decide_eq_true_eq] at e
  rw[←h.same e.1,e.2]
  refine List.ext_getElem? fun j=>?_
  by_cases hj:j=i
  ·subst hj;rw[List.getElem?_set_self (gS hz).1,hz]
  ·rw[List.getElem?_set_ne (Ne.symm hj)]
 diff:=fun e=>by
  have hlt:=(gS hz).1
  cases ch with
  | true=>
   obtain⟨j,h1,h2⟩:=h.diff rfl
   exact⟨j,by omega,by rw[List.getElem?_set_ne zo];exact h2⟩
  | false=>
   simp only[Bool.false_or,Bool.not_eq_true',decide_eq_false_iff_not] at e
   refine⟨i,by omega,?_⟩
   rw[List.getElem?_set_self hlt,←h.same rfl,hz]
   intro h3;exact e (Option.some.inj h3)
structure OutC(F:Frz)(cs:List Value)(vs:List (Option Nat)):Prop where
 len:cs.length=vs.length
 at_:∀(j:Nat) (u:Option Nat),vs[j]?=some u→∃a n c,cs[j]?=some (.slice a n c)∧Arr tNat F a n c (optL u)
theorem OutC.mono{F G:Frz}{cs:List Value}{vs:List (Option Nat)}(h:OutC F cs vs)(hF:Frz.le F G):OutC G cs vs:=
 ⟨h.len,fun j u hu=>by obtain⟨a,n,c,h1,h2⟩:=h.at_ j u hu;exact⟨a,n,c,h1,h2.mono hF⟩⟩
theorem OutC.set{F:Frz}{cs:List Value}{vs:List (Option Nat)}(h:OutC F cs vs){i:Nat}{u:Option Nat}{a:Option Addr}{n c:Nat}(hu:Arr tNat F a n c (optL u)):OutC F (cs.set i (.slice a n c)) (vs.set i u) where
 len:=by simp[h.len]
 at_:=fun j y hy=>by
  by_cases e:j=i
  ·subst e
   have hl:j<vs.length:=by have:=(gS hy).1;simpa using this
   rw[List.getElem?_set_self hl] at hy
   cases hy
   exact⟨a,n,c,by rw[List.getElem?_set_self (by rw[h.len];exact hl)],hu⟩
  ·rw[List.getElem?_set_ne (Ne.symm e)] at hy ⊢
   exact h.at_ j y hy
theorem OutC.arr{F:Frz}{cs:List Value}{vs:List (Option Nat)}(h:OutC F cs vs){i n c:Nat}(hi:F i=some (.cells false cs))(hn:vs.length=n)(hc:c=if n=0 then 0 else 1):Arr (tList tNat) F (some ⟨i,0,none⟩) n c (vs.map optL) where
 len:=by simp[hn]
 cap:=by rw[hc];split;exact .inl rfl;exact .inr rfl
 zero:=fun e=>by rw[hc] at e;split at e<;>omega
 nil:=fun e=>(by cases e)
 spot:=fun p e=>(by cases e;rfl)
 el:=fun j x hx=>by
  rw[List.getElem?_map] at hx
  cases hu:vs[j]? with
  | none=>rw[hu] at hx;cases hx
  | some u=>
   rw[hu] at hx
   obtain rfl:=Option.some.inj hx
   obtain⟨a,m,d,h1,h2⟩:=h.at_ j u hu
   refine⟨i,0,false,cs,[.slice a m d],rfl,hi,partL_of ?_ rfl,a,m,d,rfl,h2⟩
   obtain⟨h3,h4⟩:=gS h1
   show [_]=(cs.drop (0+j*1)).take 1
   rw[Nat.zero_add,Nat.mul_one,List.drop_eq_getElem_cons h3,h4];rfl
def ValueResO(cost:List Nat)(Ns:List Node)(root:Nat)(F:Frz)(v:Value):Prop:=
 (∃k y a n c,k<200∧valsO cost Ns (k+1)=valsO cost Ns k∧(valsO cost Ns k)[root]?=some y∧v=.tuple ⟨[.slice a n c,.int .i64 0]⟩∧Arr tNat F a n c (optL y))∨
 ((∀k,k<200→valsO cost Ns (k+1)≠valsO cost Ns k)∧v=.tuple ⟨[.slice none 0 0,.int .i64 9]⟩)
structure VaO where
 k:Nat
 vs:List (Option Nat)
 cs:List Value
 ch:Bool
theorem arr_back{F' F2:Frz}{iv:Nat}{cs:List Value}{vs:List (Option Nat)}{G:Frz}(hO:OutC G cs vs)(hF:∀i b,F' i=some b→F2 i=some b∨(i,b)∈[(iv,Blk.cells false cs)]){a:Option Addr}{n c:Nat}{l:List Nat}(h:Arr tNat F' a n c l):Arr tNat F2 a n c l:=
 ⟨h.len,h.cap,h.zero,h.nil,h.spot,fun j x hj=>by
  obtain⟨b,off,ro,ds,q,h1,h2,h3,h4⟩:=h.el j x hj
  have h4:q=[.int .i64 x]:=h4
  rcases hF b _ h2 with h5 | h5
  ·exact⟨b,off,ro,ds,q,h1,h5,h3,h4⟩
  ·exfalso
   simp only[List.mem_cons,List.not_mem_nil,or_false,Prod.mk.injEq,Blk.cells.injEq] at h5
   obtain⟨_,_,rfl⟩:=h5
   obtain⟨e1,e2⟩:=partL_eq h3
   have hm:Value.int .i64 (x:Int)∈ds:=by
    have:Value.int .i64 (x:Int)∈(ds.drop (off+j*tNat.size)).take tNat.size:=by rw[←e1,h4];exact List.mem_cons_self ..
    exact List.mem_of_mem_drop (List.mem_of_mem_take this)
   obtain⟨m,hm1,hm2⟩:=List.getElem_of_mem hm
   obtain⟨u,hu⟩:∃u,vs[m]?=some u:=⟨_,gE (by rw[←hO.len];exact hm1)⟩
   obtain⟨a',n',c',h6,_⟩:=hO.at_ m u hu
   rw[gE hm1,hm2] at h6
   cases h6⟩
theorem value3_spec(F:Frz)(hL:Laid F)(g:Gram)(hg:Valid g){ga:Option Addr}{gm gc:Nat}(hr:Arr tRule F ga gm gc g.rules){w:List Nat}(hw12:w.length≤12)(hw2:∀t∈w,t<g.terms)
  {fa:Option Addr} {fn fc:Nat} {fr:Int} (hf:FV g w F fa fn fc fr) {ik ic:Nat} {ca:Option Addr} {cn cc:Nat} {cost:List Nat} (hC:LeastC F ik ic ca cn cc cost) (hcm:∀y∈cost,y≤1000) (hcl:cost.length=g.rules.length) {oa:Option Addr} {on oc:Nat} (hone:Arr tNat F oa on oc [0])
  (hsm:∀E S,EndsOf g w E→Keys g w E (rootKey g w) S→stepB w E ⟨false,g.start⟩ 0 w.length=true→∀k i y,some y∈roundToO cost (S.map (mkNode g w E S)) (valsO cost (S.map (mkNode g w E S)) k) i→y≤1000000) :
  Abs.Spec CC 87 [.agg ⟨gramCells g ga gm gc⟩,.agg ⟨[.slice fa fn fc,.int .i64 fr]⟩,.agg ⟨ringL ik oa on oc⟩,.func (.func 88) ⟨[]⟩ ⟨[.pointer (some ⟨ic,0,none⟩)]⟩] F [] fun F' v o=>o=[]∧∃E,EndsOf g w E∧
   ((stepB w E ⟨false,g.start⟩ 0 w.length=false∧v=.tuple ⟨[.slice none 0 0,.int .i64 0]⟩)∨
    (stepB w E ⟨false,g.start⟩ 0 w.length=true∧∃S,Keys g w E (rootKey g w) S∧ValueResO cost (S.map (mkNode g w E S)) (place S (rootKey g w)) F' v)):=by
 obtain⟨E,hE,hV⟩:=hf.cases
 have hcs:=fcount_spec F hL g hg hr hw12 hw2 hf
 unfold gramCells at hcs ⊢
 unfold ringL
 refine Abs.Spec.fn (n:=106) Tryz.func87 rfl rfl fun own=>?_
 refine AW.seq (AW.reg ?_)
 refine WT.boxT Z Z Z Z Z Z (fun i4 hi4=>?_)
 refine WT.boxT Z Z Z Z Z Z (fun i5 hi5=>?_)
 refine WT.boxT Z Z Z Z Z Z (fun i6 hi6=>?_)
 refine zB7 ?_
 refine WT.callV Tryz.func16 Z Z Z Z Z Z hcs (fun v hv=>?_)
 obtain⟨c,rfl,hc⟩:=hv
 refine zB7 ?_
 refine AW.cond Z (fun h=>(by cases h)) (fun _=>?_)
 rcases hV with ⟨hst,hv⟩ | ⟨hst,S,sa,sn,sc,hv,hK,hN⟩
 ·cases hv
  refine zB7 ?_
  refine AW.cond Z (fun _=>?_) (fun h=>(by cases h))
  refine zB7 ?_
  exact AW.ret ⟨_,[],⟨_,_,rfl,⟨_,_,rfl,rfl,rfl⟩,rfl⟩,zsb,rfl,E,hE,.inl ⟨hst,rfl⟩⟩
 ·cases hv
  have hok:=nodes_ok hg hw12 hK (root_good hg w)
  have hNl:=hN.len
  have hfew:=hok.few
  have hpk:∀x∈S.map (mkNode g w E S),∀p∈x.packs,p.rule<cost.length∧p.kids.length≤1000:=by
   intro x hx p hp
   obtain⟨k,hk,rfl⟩:=List.mem_map.1 hx
   obtain⟨kp,hkp,rfl⟩:=List.mem_map.1 hp
   obtain⟨q,h1,h2,h3,h4⟩:=mem_packsOf.1 hkp
   have h5:=splits_kids h4
   have h6:=(hg.right q (gM h1)).2.1
   exact⟨by rw[hcl];exact(gS h1).1,by show (kp.kids.map _).length≤1000;rw[List.length_map];omega⟩
  have hsm:=hsm E S hE hK hst
  generalize hNs:S.map (mkNode g w E S)=Ns at *
  refine zB7 ?_
  refine AW.cond Z (fun h=>(by simp at h;omega)) (fun _=>?_)
  refine zB7 ?_
  refine WT.makeT (l:=fn) hT Z Z Z Z Z Z Z Z Z Z Z Z zom (fun iv hiv=>?_)
  rw[cap_eq]
  refine zB7 ?_
  refine AW.range (S:=VaO) (fun _=>[]) (fun s=>[(iv,.cells false s.cs)]::[(i6,.cells false (ringL ik oa on oc))]::[(i5,.cells false [.slice fa fn fc,.int .i64 (place S (rootKey g w):Nat)])]::[(i4,.cells false [.int .i64 g.terms,.int .i64 g.nons,.int .i64 g.start,.slice ga gm gc])]::own)
   (fun j s G=>OutC G s.cs s.vs∧s.vs.length=fn∧∀i x,i<j→Ns[i]?=some x→s.vs[i]?=some (leafO x)) fn ⟨0,List.replicate fn none,List.replicate fn (.slice none 0 0),false⟩
   Z Z Z Z Z Z Z Z Z zo rfl rfl (fun _=>rfl) (fun _=>rfl) sM oR ⟨⟨by simp,fun j u hu=>?_⟩,by simp,fun i x h=>by omega⟩ ?_ ?_
  ·have h1:=List.eq_of_mem_replicate (gM hu)
   have h2:j<fn:=by have:=(gS hu).1;simpa using this
   subst h1
   exact⟨none,0,0,by rw[List.getElem?_replicate,if_pos h2],Arr.nil_ _ _⟩
  ·intro j s F1 hF1 hj hP
   obtain⟨sk,vs,cs,sch⟩:=s
   have hP:OutC F1 cs vs∧vs.length=fn∧∀i x,i<j→Ns[i]?=some x→vs[i]?=some (leafO x):=hP
   obtain⟨hO,hvl,hvs⟩:=hP
   have hol:=hO.len
   have hN1:=hN.mono hF1
   have hone1:=hone.mono hF1
   unfold ringL
   refine zB7 ?_
   refine WT.idxL hT hN1 Z Z Z Z Z Z Z Z Z zo (fun x hxj b5 off5 ro5 cs5 lx5 hb5 hp5 hrel5=>?_)
   obtain⟨pa,pn,pc,rfl,hpa⟩:=hrel5
   refine zB7 ?_
   refine WT.allocT hT Z Z Z Z Z Z (fun i15 hi15=>?_)
   refine zB7 ?_
   refine WT.idxA (j:=j) (s:=1) hT Z Z Z Z Z Z Z Z Z zo ?_
   refine WT.storeAt hT 1 0 Z Z Z Z Z Z Z Z Z Z (by show 0+j*1<cs.length;omega) Z Z ?_
   rw[show 0+j*1=j by omega]
   refine zB7 ?_
   refine AW.cond Z (fun ht=>?_) (fun ht=>?_)
   ·refine zB7 ?_
    refine WT.idxA (j:=j) (s:=1) hT Z Z Z Z Z Z Z Z Z zo ?_
    refine WT.storeAt hT 1 0 Z Z Z Z Z Z Z Z Z Z (by simp;omega) Z Z ?_
    rw[show 0+j*1=j by omega]
    refine zB7 ?_
    refine⟨⟨0,(vs.set j none).set j (some 0),(cs.set j (.slice none 0 0)).set j (.slice oa on oc),false⟩,sM,zow,(hO.set (Arr.nil_ _ _)).set hone1,by simp[hvl],fun i y h hy=>?_⟩
    by_cases e:i=j
    ·subst e
     obtain rfl:x=y:=by rw[hxj] at hy;exact Option.some.inj hy
     show ((vs.set i none).set i (some 0))[i]?=_
     rw[List.getElem?_set_self (by simp;omega)]
     unfold leafO
     rw[if_pos ht]
    ·show ((vs.set j none).set j (some 0))[i]?=_
     rw[List.getElem?_set_ne (Ne.symm e),List.getElem?_set_ne (Ne.symm e)]
     exact hvs i y zo hy
   ·refine zB7 ?_
    refine⟨⟨0,vs.set j none,cs.set j (.slice none 0 0),false⟩,sM,zow,hO.set (Arr.nil_ _ _),by simp[hvl],fun i y h hy=>?_⟩
    by_cases e:i=j
    ·subst e
     obtain rfl:x=y:=by rw[hxj] at hy;exact Option.some.inj hy
     show (vs.set i none)[i]?=_
     rw[List.getElem?_set_self zo]
     unfold leafO
     rw[if_neg (by simpa using ht)]
    ·show (vs.set j none)[i]?=_
     rw[List.getElem?_set_ne (Ne.symm e)]
     exact hvs i y zo hy
  ·intro s F1 hF1 hP
   obtain⟨sk,vs,cs,sch⟩:=s
   have hP:OutC F1 cs vs∧vs.length=fn∧∀i x,i<fn→Ns[i]?=some x→vs[i]?=some (leafO x):=hP
   obtain⟨hO,hvl,hvs⟩:=hP
   have hN1:=hN.mono hF1
   obtain rfl:vs=startO Ns:=by
    refine List.ext_getElem? fun i=>?_
    rcases Nat.lt_or_ge i fn with h | h
    ·obtain⟨x,hx⟩:∃x,Ns[i]?=some x:=⟨_,gE zo⟩
     rw[hvs i x h hx]
     unfold startO
     rw[List.getElem?_map,hx];rfl
    ·rw[List.getElem?_eq_none_iff.2 zo,List.getElem?_eq_none_iff.2 (by unfold startO;simp;omega)]
   refine zB7 ?_
   refine AW.block ?_
   refine AW.loopR (S:=VaO) (fun s=>[(61,ci s.k)]) (fun s=>[(iv,.cells false s.cs)]::[(i6,.cells false (ringL ik oa on oc))]::[(i5,.cells false [.slice fa fn fc,.int .i64 (place S (rootKey g w):Nat)])]::[(i4,.cells false [.int .i64 g.terms,.int .i64 g.nons,.int .i64 g.start,.slice ga gm gc])]::own)
    (fun s G=>OutC G s.cs s.vs∧s.vs=valsO cost Ns s.k∧s.k≤200∧∀k,k<s.k→valsO cost Ns (k+1)≠valsO cost Ns k) (fun s=>200-s.k) ⟨0,startO Ns,cs,false⟩ sM oR ⟨hO,rfl,by show 0≤200;omega,fun k h=>absurd h (Nat.not_lt_zero k)⟩ ?_
   intro s F2 hF2 hP2
   obtain⟨sk,vs,cs,sch⟩:=s
   have hP2:OutC F2 cs vs∧vs=valsO cost Ns sk∧sk≤200∧∀k,k<sk→valsO cost Ns (k+1)≠valsO cost Ns k:=hP2
   obtain⟨hO2,hsv,hsk,hsd⟩:=hP2
   have hsl:vs.length=fn:=by rw[hsv,valsO_len];omega
   have hN2:=hN1.mono hF2
   have hF02:=hF1.trans hF2
   unfold ringL
   refine zB7 ?_
   refine AW.cond Z (fun hk=>?_) (fun hk=>?_)
   ·have hk:sk<200:=by simp at hk;omega
    refine zB7 ?_
    refine AW.block ?_
    refine zB7 ?_
    refine AW.range (S:=VaO) (fun t=>[(16,.bool t.ch)]) (fun t=>[(iv,.cells false t.cs)]::[(i6,.cells false (ringL ik oa on oc))]::[(i5,.cells false [.slice fa fn fc,.int .i64 (place S (rootKey g w):Nat)])]::[(i4,.cells false [.int .i64 g.terms,.int .i64 g.nons,.int .i64 g.start,.slice ga gm gc])]::own)
     (fun j t G=>OutC G t.cs t.vs∧RoundO cost Ns vs j t.vs t.ch) fn ⟨0,vs,cs,false⟩
     Z Z Z Z Z Z Z Z Z zo rfl rfl (fun _=>rfl) (fun _=>rfl) sM oR ⟨hO2,rfl,fun _=>rfl,fun h=>(by cases h)⟩ ?_ ?_
    ·intro j t F3 hF3 hj hP3
     obtain⟨tk,us,ds,ch⟩:=t
     have hP3:OutC F3 ds us∧RoundO cost Ns vs j us ch:=hP3
     obtain⟨hO3,hRS⟩:=hP3
     have hul:us.length=fn:=by rw[hRS.is,roundToO_len,hsl]
     have hdl:=hO3.len
     have hN3:=hN2.mono hF3
     have hF03:=hF02.trans hF3
     have husm:∀y,some y∈us→y≤1000000:=fun y hy=>hsm sk j y (by rw[←hsv,←hRS.is];exact hy)
     unfold ringL
     refine zB7 ?_
     refine WT.idxL hT hN3 Z Z Z Z Z Z Z Z Z zo (fun x hxj b5 off5 ro5 cs5 lx5 hb5 hp5 hrel5=>?_)
     obtain⟨pa,pn,pc,rfl,hpa⟩:=hrel5
     have hpal:=hpa.len
     have hpk':=hok.packs x (gM hxj)
     obtain⟨z,hz⟩:∃z,us[j]?=some z:=⟨_,gE zo⟩
     refine zB7 ?_
     refine WT.allocT hT Z Z Z Z Z Z (fun i18 hi18=>?_)
     refine zB7 ?_
     refine AW.cond Z (fun ht=>?_) (fun ht=>?_)
     ·refine AW.exit ?_
      skip
      exact⟨⟨tk,us,ds,ch⟩,sM,zow,hO3,hRS.stay hxj ht⟩
     ·have ht:x.key.sym.term=false:=by simpa using ht
      refine zB7 ?_
      have nspec:=Spec.lendBF (B:=[(iv,Blk.cells false ds)]) fun G hG hBG=>
       node3_spec G (hC.mono (hF03.trans hG)) hcm (oa:=oa) (on:=on) (oc:=oc) (hpa.mono hG) zo ((hO3.mono hG).arr (hBG iv _ me) hul rfl) husm (fun p hp=>⟨(hpk x (gM hxj) p hp).1,(hpk x (gM hxj) p hp).2,fun k hk=>by rw[hul,hNl];exact hok.kid k j ⟨x,p,hxj,hp,hk⟩⟩)
      unfold nodeCells ringL at nspec
      refine WT.call1F 1 Tryz.func115 Z Z Z Z Z Z Z (fun _=>rfl) nspec (fun F4 v B4 hF4 hv=>?_)
      obtain⟨rfl,F',⟨ra,rn,rc,rfl,hr⟩,hback⟩:=hv
      have hres:=arr_back (hO3) hback hr
      have hO4:=hO3.mono hF4
      cases ch with
      | true=>
       refine zB7 ?_
       refine WT.idxA (j:=j) (s:=1) hT Z Z Z Z Z Z Z Z Z zo ?_
       refine WT.storeAt hT 1 0 Z Z Z Z Z Z Z Z Z Z (by show 0+j*1<ds.length;omega) Z Z ?_
       rw[show 0+j*1=j by omega]
       refine zB7 ?_
       exact⟨⟨tk,us.set j (nodeO cost us x),ds.set j (.slice ra rn rc),true⟩,sM,zow,hO4.set hres,hRS.put hxj ht hz⟩
      | false=>
       obtain⟨za,zn,zc,hzc,hza⟩:=hO4.at_ j z hz
       refine zB7 ?_
       refine WT.idxA (j:=j) (s:=1) hT Z Z Z Z Z Z Z Z Z zo ?_
       refine WT.loadAt hT 1 Z Z Z Z Z Z me Z Z (by rw[show 0+j*1=j by omega];exact hzc) ?_
       skip
       refine WT.callC Tryz.func82 Z Z Z Z Z Z Z Z (lsame_spec _ hres hza) (fun v hv=>?_)
       subst hv
       refine zB7 ?_
       refine WT.idxA (j:=j) (s:=1) hT Z Z Z Z Z Z Z Z Z zo ?_
       refine WT.storeAt hT 1 0 Z Z Z Z Z Z Z Z Z Z (by show 0+j*1<ds.length;omega) Z Z ?_
       rw[show 0+j*1=j by omega]
       refine zB7 ?_
       exact⟨⟨tk,us.set j (nodeO cost us x),ds.set j (.slice ra rn rc),!decide (nodeO cost us x=z)⟩,sM,zow,hO4.set hres,by have:=hRS.put hxj ht hz;rwa [Bool.false_or] at this⟩
    ·intro t F3 hF3 hP3
     obtain⟨tk,us,ds,ch⟩:=t
     have hP3:OutC F3 ds us∧RoundO cost Ns vs fn us ch:=hP3
     obtain⟨hO3,hRS⟩:=hP3
     have hul:us.length=fn:=by rw[hRS.is,roundToO_len,hsl]
     have hnext:us=valsO cost Ns (sk+1):=by rw[hRS.is,hsv,hNl];rfl
     unfold ringL
     cases ch with
     | false=>
      have hsame:=hRS.same rfl
      refine zB7 ?_
      refine AW.cond Z (fun _=>?_) (fun h=>(by cases h))
      have hpl:place S (rootKey g w)<fn:=by
       have:=(gS (place_at hK.first)).1
       have e:Ns.length=S.length:=by rw[←hNs,List.length_map]
       omega
      obtain⟨y,hy⟩:∃y,us[place S (rootKey g w)]?=some y:=⟨_,gE zo⟩
      obtain⟨ya,yn,yc,hyc,hya⟩:=hO3.at_ _ y hy
      refine zB7 ?_
      refine WT.idxA (j:=place S (rootKey g w)) (s:=1) hT Z Z Z Z Z Z Z Z Z zo ?_
      refine WT.loadAt hT 0 Z Z Z Z Z Z me Z Z (by rw[Nat.zero_add,Nat.mul_one];exact hyc) ?_
      refine zB7 ?_
      refine AW.ret ⟨_,[],⟨_,_,rfl,⟨_,_,rfl,rfl,rfl⟩,rfl⟩,zsb,rfl,E,hE,.inr ⟨hst,S,hK,?_⟩⟩
      rw[hNs]
      exact .inl ⟨sk,y,_,_,_,hk,by rw[←hnext,←hsv];exact hsame,by rw[←hsv,←hsame];exact hy,rfl,hya⟩
     | true=>
      obtain⟨q,hq,hqd⟩:=hRS.diff rfl
      refine zB7 ?_
      refine AW.cond Z (fun h=>(by cases h)) (fun _=>?_)
      refine zB7 ?_
      refine⟨⟨sk+1,us,ds,false⟩,(by show 200-(sk+1)<200-sk;omega),sM,zow,hO3,hnext,hk,fun k h=>?_⟩
      rcases Nat.lt_or_ge k sk with h1 | h1
      ·exact hsd k h1
      ·obtain rfl:k=sk:=by have:k<sk+1:=h;omega
       rw[←hnext,←hsv]
       intro e;rw[e] at hqd;exact hqd rfl
   ·have hk:sk=200:=by simp at hk;omega
    skip
    refine AW.exit ?_
    refine zB7 ?_
    refine AW.ret ⟨_,[],⟨_,_,rfl,⟨_,_,rfl,rfl,rfl⟩,rfl⟩,zsb,rfl,E,hE,.inr ⟨hst,S,hK,?_⟩⟩
    rw[hNs]
    exact .inr ⟨fun k h=>hsd k zo,rfl⟩
def orRow(xs ys:List Bool):List Bool:=List.zipWith (fun a b=>a||b) xs ys
structure US where
 cur:List Bool
 ch:Bool
def ofRow(E:List Bool)(Fi:List (List Bool)):List Bool→List Sym→List Bool×Bool
 | out,[]=>(out,true)
 | out,s::l=>if s.term=true then (out.set s.n true,false) else
  if E.getD s.n false=true then ofRow E Fi (orRow out (Fi.getD s.n [])) l else (orRow out (Fi.getD s.n []),false)
def FirstClosed(g:Gram)(E:List Bool)(Fi:List (List Bool)):Prop:=∀r∈g.rules,orRow (Fi.getD r.left []) (ofRow E Fi (List.replicate g.terms false) r.right).1=Fi.getD r.left []∧
 ((ofRow E Fi (List.replicate g.terms false) r.right).2=true→E.getD r.left false=true)
structure SetsF(F:Frz)(is:Nat)(g:Gram)(ra:Option Addr)(rm rc:Nat)(E:List Bool)(Fi:List (List Bool)):Prop where
 blk:∃ie io ce co ro,F is=some (.cells ro [.int .i64 g.terms,.int .i64 g.nons,.int .i64 g.start,.slice ra rm rc,.slice (some ⟨ie,0,none⟩) g.nons ce,.slice (some ⟨io,0,none⟩) g.nons co])∧
  Arr tBool F (some ⟨ie,0,none⟩) g.nons ce E∧Arr (tList tBool) F (some ⟨io,0,none⟩) g.nons co Fi
 row:∀r∈Fi,r.length=g.terms
 rules:Arr tRule F ra rm rc g.rules
 closed:FirstClosed g E Fi
structure FS where
 a:Option Addr
 m:Nat
 c:Nat
 B:List (Nat×Blk)
 vs:List Value
 bs:List (Nat×Blk)
structure FM where
 E:List Bool
 Fi:List (List Bool)
 bs:List (Nat×Blk)
 again:Bool
def ones:List Bool→Nat
 | []=>0
 | b::l=>(if b=true then 1 else 0)+ones l
def DirectIn(E:List Bool)(M:List (List Bool))(r:Rule):Prop:=∀pre n post,r.right=pre++⟨false,n⟩::post→(∀y∈pre,y.term=false∧E.getD y.n false=true)→tget M r.left n=some true
structure TM where
 M:List (List Bool)
 bs:List (Nat×Blk)
structure LfS where
 ys:List (List Nat)
 a:Option Addr
 m:Nat
 c:Nat
 B:List (Nat×Blk)
inductive Tree where
 | mk (rule:Int) (term:Nat) (kids:List Tree)
theorem Arr.imp{α:Type}{R S:Ty α}(hs:R.size=S.size){F:Frz}{a:Option Addr}{n c:Nat}{xs:List α}(h:Arr R F a n c xs)(hi:∀l x,x∈xs→R.rel F l x→S.rel F l x):Arr S F a n c xs:=
 ⟨h.len,by rw[←hs];exact h.cap,h.zero,h.nil,h.spot,fun j x hj=>
  let ⟨b,off,ro,cs,l,h1,h2,h3,h4⟩:=h.el j x hj
  ⟨b,off,ro,cs,l,h1,h2,by rw[←hs];exact h3,hi _ _ (gM hj) h4⟩⟩
def tTreeN:Nat→Ty Tree
 | 0=>⟨3,fun _ _ _=>False,fun _ _ _ h=>h.elim,fun _ _ _ h=>h.elim,fun _ _ _ _ _ h=>h⟩
 | d+1=>
  {size:=3
   rel:=fun F l x=>∃r t ks a n c,x=.mk r t ks∧l=[.int .i64 r,.int .i64 (t:Nat),.slice a n c]∧Arr (tTreeN d) F a n c ks∧ks.length≤1000000
   len:=fun _ _ _ h=>by obtain⟨r,t,ks,a,n,c,_,rfl,_⟩:=h;rfl
   one:=fun _ _ _ h=>by obtain⟨r,t,ks,a,n,c,_,rfl,_⟩:=h;rfl
   mono:=fun _ _ _ _ hF h=>by obtain⟨r,t,ks,a,n,c,e,e2,h,hb⟩:=h;exact⟨r,t,ks,a,n,c,e,e2,h.mono hF,hb⟩ }
theorem tTreeN_size:∀d,(tTreeN d).size=3
 | 0=>rfl
 | _+1=>rfl
theorem tTreeN_succ:∀(d:Nat) (F:Frz) (l:List Value) (x:Tree),(tTreeN d).rel F l x→(tTreeN (d+1)).rel F l x
 | 0,_,_,_,h=>h.elim
 | d+1,F,l,x,h=>by
  obtain⟨r,t,ks,a,n,c,e,e2,h,hb⟩:=h
  exact⟨r,t,ks,a,n,c,e,e2,Arr.imp (by rw[tTreeN_size,tTreeN_size]) h fun l x _=>tTreeN_succ d F l x,hb⟩
theorem tTreeN_le{d e:Nat}(h:d≤e){F:Frz}{l:List Value}{x:Tree}(hr:(tTreeN d).rel F l x):(tTreeN e).rel F l x:=by
 induction h with
 | refl=>exact hr
 | step _ ih=>exact tTreeN_succ _ _ _ _ ih
def tTree:Ty Tree where
 size:=3
 rel:=fun F l x=>∃d,(tTreeN d).rel F l x
 len:=fun _ _ _ h=>by obtain⟨d,h⟩:=h;rw[(tTreeN d).len _ _ _ h,tTreeN_size]
 one:=fun _ _ _ h=>by obtain⟨d,h⟩:=h;exact(tTreeN d).one _ _ _ h
 mono:=fun _ _ _ _ hF h=>by obtain⟨d,h⟩:=h;exact⟨d,(tTreeN d).mono _ _ _ _ hF h⟩
theorem max_of{α:Type}{P:Nat→α→Nat→Prop}(hm:∀j x d e,d≤e→P j x d→P j x e):∀(xs:List α) (i:Nat),(∀j x,xs[j]?=some x→∃d,P (i+j) x d)→∃D,∀j x,xs[j]?=some x→P (i+j) x D
 | [],_,_=>⟨0,fun _ _ h=>by simp at h⟩
 | x::xs,i,h=>by
  obtain⟨d,hd⟩:=h 0 x rfl
  obtain⟨D,hD⟩:=max_of hm xs (i+1) (fun j y hj=>by
   have:=h (j+1) y hj
   rw[show i+(j+1)=i+1+j by omega] at this
   exact this)
  refine⟨max d D,fun j y hj=>?_⟩
  cases j with
  | zero=>
   obtain rfl:x=y:=by simpa using hj
   exact hm _ _ _ _ (Nat.le_max_left _ _) hd
  | succ j=>
   have:=hm _ _ _ _ (Nat.le_max_right d D) (hD j y hj)
   rw[show i+(j+1)=i+1+j by omega]
   exact this
theorem arr_tree{F:Frz}{a:Option Addr}{n c:Nat}{xs:List Tree}(h:Arr tTree F a n c xs):∃d,Arr (tTreeN d) F a n c xs:=by
 obtain⟨D,hD⟩:=max_of (P:=fun j x d=>∃b off ro cs l,a=some ⟨b,off,none⟩∧F b=some (.cells ro cs)∧partL cs (off+j*3) 3=some l∧(tTreeN d).rel F l x)
  (fun j x d e hde ⟨b,off,ro,cs,l,h1,h2,h3,h4⟩=>⟨b,off,ro,cs,l,h1,h2,h3,tTreeN_le hde h4⟩) xs 0 (fun j x hj=>by
   obtain⟨b,off,ro,cs,l,h1,h2,h3,d,h4⟩:=h.el j x hj
   exact⟨d,b,off,ro,cs,l,h1,h2,by rw[Nat.zero_add];exact h3,h4⟩)
 refine⟨D,h.len,by rw[tTreeN_size];exact h.cap,h.zero,h.nil,h.spot,fun j x hj=>?_⟩
 obtain⟨b,off,ro,cs,l,h1,h2,h3,h4⟩:=hD j x hj
 rw[Nat.zero_add] at h3
 exact⟨b,off,ro,cs,l,h1,h2,by rw[tTreeN_size];exact h3,h4⟩
theorem tTree_mk{F:Frz}{r:Int}{t:Nat}{ks:List Tree}{a:Option Addr}{n c:Nat}(h:Arr tTree F a n c ks)(hb:ks.length≤1000000):tTree.rel F [.int .i64 r,.int .i64 t,.slice a n c] (.mk r t ks):=by
 obtain⟨d,hd⟩:=arr_tree h
 exact⟨d+1,r,t,ks,a,n,c,rfl,rfl,hd,hb⟩
theorem tTree_cases{F:Frz}{l:List Value}{r:Int}{t:Nat}{ks:List Tree}(h:tTree.rel F l (.mk r t ks)):∃a n c,l=[.int .i64 r,.int .i64 t,.slice a n c]∧Arr tTree F a n c ks∧ks.length≤1000000:=by
 obtain⟨d,h⟩:=h
 cases d with
 | zero=>exact h.elim
 | succ d=>
  obtain⟨r',t',ks',a,n,c,e,rfl,h,hb⟩:=h
  cases e
  exact⟨a,n,c,rfl,Arr.imp (tTreeN_size d) h (fun l x _ hx=>⟨d,hx⟩),hb⟩
structure TkS where
 j:Nat
 a:Option Addr
 c:Nat
 B:List (Nat×Blk)
structure NoLoop(g:Gram)(M:List (List Bool))(E:List Bool)(Fi:List (List Bool)):Prop where
 tab:TabOk g.nons g.nons M
 first:FirstClosed g E Fi
 direct:∀r∈g.rules,DirectIn E M r
 trans:∀x y z,y<g.nons→tget M x y=some true→tget M y z=some true→tget M x z=some true
 irr:∀i,i<g.nons→tget M i i≠some true
mutual
inductive TreeOf(g:Gram)(w:List Nat):Sym→Tree→Nat→Nat→Prop
 | leaf {t i:Nat} (h:w[i]?=some t):TreeOf g w ⟨true,t⟩ (.mk (-1) t []) i (i+1)
 | node {k:Nat} {r:Rule} {kids:List Tree} {i j:Nat} (h:g.rules[k]?=some r) (h2:TreesOf g w r.right kids i j):TreeOf g w ⟨false,r.left⟩ (.mk k 0 kids) i j
inductive TreesOf(g:Gram)(w:List Nat):List Sym→List Tree→Nat→Nat→Prop
 | nil {i:Nat}:TreesOf g w [] [] i i
 | cons {s:Sym} {l:List Sym} {t:Tree} {ts:List Tree} {i m j:Nat} (h:TreeOf g w s t i m) (h2:TreesOf g w l ts m j):TreesOf g w (s::l) (t::ts) i j
end
mutual
theorem TreeOf.le{g:Gram}{w:List Nat}:∀{t:Tree} {s:Sym} {i j:Nat},TreeOf g w s t i j→i≤j∧(i≤w.length→j≤w.length)
 | .mk _ _ _,_,_,_,.leaf h=>⟨by omega,fun _=>by have:=(gS h).1;omega⟩
 | .mk _ _ ks,_,_,_,.node h h2=>TreesOf.le h2
theorem TreesOf.le{g:Gram}{w:List Nat}:∀{ts:List Tree} {l:List Sym} {i j:Nat},TreesOf g w l ts i j→i≤j∧(i≤w.length→j≤w.length)
 | [],_,_,_,.nil=>⟨Nat.le_refl _,id⟩
 | t::ts,_,_,_,.cons h h2=>by
  have h3:=TreeOf.le h
  have h4:=TreesOf.le h2
  exact⟨by omega,fun h5=>h4.2 (h3.2 h5)⟩
end
theorem TreesOf.len{g:Gram}{w:List Nat}:∀{ts:List Tree} {l:List Sym} {i j:Nat},TreesOf g w l ts i j→ts.length=l.length
 | [],_,_,_,.nil=>rfl
 | t::ts,_,_,_,.cons h h2=>by simp[TreesOf.len h2]
theorem ofRow_all{E:List Bool}{Fi:List (List Bool)}:∀(l:List Sym) (out:List Bool),(∀y∈l,y.term=false∧E.getD y.n false=true)→(ofRow E Fi out l).2=true
 | [],_,_=>rfl
 | s::l,out,h=>by
  have h1:=h s me
  unfold ofRow
  rw[if_neg (by simp[h1.1]),if_pos h1.2]
  exact ofRow_all l _ fun y hy=>h y (List.mem_cons_of_mem _ hy)
mutual
theorem TreeOf.empty{g:Gram}{w:List Nat}{E:List Bool}{Fi:List (List Bool)}(hc:FirstClosed g E Fi):∀{t:Tree} {s:Sym} {i j:Nat},TreeOf g w s t i j→i=j→s.term=false∧E.getD s.n false=true
 | .mk _ _ _,_,_,_,.leaf h,e=>by omega
 | .mk _ _ ks,_,_,_,.node h h2,e=>⟨rfl,(hc _ (gM h)).2 (ofRow_all _ _ (TreesOf.empty hc h2 e))⟩
theorem TreesOf.empty{g:Gram}{w:List Nat}{E:List Bool}{Fi:List (List Bool)}(hc:FirstClosed g E Fi):∀{ts:List Tree} {l:List Sym} {i j:Nat},TreesOf g w l ts i j→i=j→∀y∈l,y.term=false∧E.getD y.n false=true
 | [],_,_,_,.nil,_=>fun y hy=>by simp at hy
 | t::ts,_,_,_,.cons h h2,e=>fun y hy=>by
  have h3:=h.le.1
  have h4:=h2.le.1
  rcases List.mem_cons.1 hy with rfl | hy
  ·exact TreeOf.empty hc h zo
  ·exact TreesOf.empty hc h2 zo y hy
end
def rank(n:Nat)(M:List (List Bool))(i:Nat):Nat:=(List.range n).countP fun j=>decide (tget M i j=some true)
def joinQ{S:Type}(chg:S→Kno)(k:Kno)(ow:S→Own)(P:S→Frz→Prop)(A:Ex→Kno→Frz→Own→Prop):Ex→Kno→Frz→Own→Prop
 | .normal,k',F',own'=>∃s,SubK (chg s++k) k'∧OwnLe (ow s) own'∧P s F'
 | x,k',F',own'=>A x k' F' own'
theorem key_eq(a b c d:Nat):((((a:Int)==(c:Int))&&(((b:Int)==(d:Int))&&true))=decide ((a,b)=(c,d))):=by
 rw[Bool.eq_iff_iff]
 simp only[Bool.and_eq_true,beq_iff_eq,decide_eq_true_eq,Prod.mk.injEq,and_true]
 omega
def keyP:KeyTy CC 140 (Nat×Nat) where
 key:=fun p=>.agg ⟨[.int .i64 p.1,.int .i64 p.2]⟩
 ok:=fun p=>keyT_ok hT 8 _ _ rfl
 eq:=fun p q=>by
  have h:eqA CC 8 140 (.agg ⟨[.int .i64 p.1,.int .i64 p.2]⟩) (.agg ⟨[.int .i64 q.1,.int .i64 q.2]⟩)=some (decide (p=q)):=by
   rw[←key_eq]
   exact eqT_ok hT 8 _ _ _ _ rfl
  by_cases e:p=q
  ·exact .inl ⟨e,by rw[h];simp[e]⟩
  ·exact .inr ⟨e,by rw[h];simp[e]⟩
mutual
def Tree.pre:Tree→List Int
 | .mk r _ ks=>r::preL ks
def preL:List Tree→List Int
 | []=>[]
 | t::ts=>t.pre++preL ts
end
def lexLt:List Int→List Int→Prop
 | [],[]=>False
 | [],_::_=>True
 | _::_,[]=>False
 | a::l,b::m=>a<b∨(a=b∧lexLt l m)
theorem lexLt_irrefl:∀(l:List Int),¬lexLt l l
 | [],h=>h
 | a::l,h=>by
  rcases h with h | h
  ·omega
  ·exact lexLt_irrefl l h.2
theorem lexLt_trans:∀{l m n:List Int},lexLt l m→lexLt m n→lexLt l n
 | [],[],_,h,_=>h.elim
 | [],_::_,[],_,h=>h.elim
 | [],_::_,_::_,_,_=>trivial
 | _::_,[],_,h,_=>h.elim
 | _::_,_::_,[],_,h=>h.elim
 | a::l,b::m,c::n,h1,h2=>by
  rcases h1 with h1 | ⟨rfl,h1⟩<;>rcases h2 with h2 | ⟨rfl,h2⟩
  ·exact .inl zo
  ·exact .inl h1
  ·exact .inl h2
  ·exact .inr ⟨rfl,lexLt_trans h1 h2⟩
theorem lexLt_total:∀(l m:List Int),lexLt l m∨l=m∨lexLt m l
 | [],[]=>.inr (.inl rfl)
 | [],_::_=>.inl trivial
 | _::_,[]=>.inr (.inr trivial)
 | a::l,b::m=>by
  rcases Int.lt_trichotomy a b with h | rfl | h
  ·exact .inl (.inl h)
  ·rcases lexLt_total l m with h | rfl | h
   ·exact .inl (.inr ⟨rfl,h⟩)
   ·exact .inr (.inl rfl)
   ·exact .inr (.inr (.inr ⟨rfl,h⟩))
  ·exact .inr (.inr (.inl h))
theorem lexLt_app:∀{l m:List Int} (x y:List Int),l.length=m.length→lexLt l m→lexLt (l++x) (m++y)
 | [],[],_,_,_,h=>h.elim
 | [],_::_,_,_,h,_=>by simp at h
 | _::_,[],_,_,h,_=>by simp at h
 | a::l,b::m,x,y,h,h2=>by
  rcases h2 with h2 | ⟨rfl,h2⟩
  ·exact .inl h2
  ·exact .inr ⟨rfl,lexLt_app x y (by simpa using h) h2⟩
theorem lexLt_pre:∀(a:List Int) {x y:List Int},lexLt x y→lexLt (a++x) (a++y)
 | [],_,_,h=>h
 | _::a,_,_,h=>.inr ⟨rfl,lexLt_pre a h⟩
def wlt(l m:List Int):Prop:=l.length<m.length∨(l.length=m.length∧lexLt l m)
def wle(l m:List Int):Prop:=wlt l m∨l=m
theorem wlt_irrefl(l:List Int):¬wlt l l:=fun h=>by
 rcases h with h | h
 ·omega
 ·exact lexLt_irrefl l h.2
theorem wlt_trans{l m n:List Int}(h1:wlt l m)(h2:wlt m n):wlt l n:=by
 rcases h1 with h1 | ⟨e1,h1⟩<;>rcases h2 with h2 | ⟨e2,h2⟩
 ·exact .inl zo
 ·exact .inl zo
 ·exact .inl zo
 ·exact .inr ⟨by omega,lexLt_trans h1 h2⟩
theorem wlt_total(l m:List Int):wlt l m∨l=m∨wlt m l:=by
 rcases Nat.lt_trichotomy l.length m.length with h | h | h
 ·exact .inl (.inl h)
 ·rcases lexLt_total l m with h2 | rfl | h2
  ·exact .inl (.inr ⟨h,h2⟩)
  ·exact .inr (.inl rfl)
  ·exact .inr (.inr (.inr ⟨h.symm,h2⟩))
 ·exact .inr (.inr (.inl h))
theorem wle_refl(l:List Int):wle l l:=.inr rfl
theorem wle_trans{l m n:List Int}(h1:wle l m)(h2:wle m n):wle l n:=by
 rcases h1 with h1 | rfl
 ·rcases h2 with h2 | rfl
  ·exact .inl (wlt_trans h1 h2)
  ·exact .inl h1
 ·exact h2
theorem wlt_wle{l m n:List Int}(h1:wlt l m)(h2:wle m n):wlt l n:=by
 rcases h2 with h2 | rfl
 ·exact wlt_trans h1 h2
 ·exact h1
theorem wle_wlt{l m n:List Int}(h1:wle l m)(h2:wlt m n):wlt l n:=by
 rcases h1 with h1 | rfl
 ·exact wlt_trans h1 h2
 ·exact h2
theorem wle_total(l m:List Int):wle l m∨wlt m l:=by
 rcases wlt_total l m with h | h | h
 ·exact .inl (.inl h)
 ·exact .inl (.inr h)
 ·exact .inr h
theorem wle_len{l m:List Int}(h:wle l m):l.length≤m.length:=by
 rcases h with (h | h) | rfl<;>omega
theorem wlt_appL{a b:List Int}(x y:List Int)(h:wlt a b)(h2:wle x y):wlt (a++x) (b++y):=by
 have hl:=wle_len h2
 rcases h with h | ⟨e,h⟩
 ·exact .inl (by simp;omega)
 ·by_cases e2:x.length=y.length
  ·exact .inr ⟨by simp;omega,lexLt_app x y e h⟩
  ·exact .inl (by simp;omega)
theorem wlt_appR(a:List Int){x y:List Int}(h:wlt x y):wlt (a++x) (a++y):=by
 rcases h with h | ⟨e,h⟩
 ·exact .inl (by simp;omega)
 ·exact .inr ⟨by simp;omega,lexLt_pre a h⟩
theorem wle_app{a b x y:List Int}(h:wle a b)(h2:wle x y):wle (a++x) (b++y):=by
 rcases h with h | rfl
 ·exact .inl (wlt_appL x y h h2)
 ·rcases h2 with h2 | rfl
  ·exact .inl (wlt_appR a h2)
  ·exact .inr rfl
theorem wle_cons(a:Int){x y:List Int}(h:wle x y):wle (a::x) (a::y):=wle_app (wle_refl [a]) h
theorem wlt_cons(a:Int){x y:List Int}(h:wlt x y):wlt (a::x) (a::y):=wlt_appR [a] h
def tlt(a b:Tree):Prop:=wlt a.pre b.pre
def tle(a b:Tree):Prop:=wle a.pre b.pre
def allLe:List Tree→List Tree→Prop
 | [],[]=>True
 | a::l,b::m=>tle a b∧allLe l m
 | _,_=>False
theorem preL_le:∀{l m:List Tree},allLe l m→wle (preL l) (preL m)
 | [],[],_=>wle_refl _
 | a::l,b::m,h=>wle_app h.1 (preL_le h.2)
 | [],_::_,h=>h.elim
 | _::_,[],h=>h.elim
theorem preL_set:∀{l:List Tree} {i:Nat} {u t:Tree},l[i]?=some u→tlt t u→wlt (preL (l.set i t)) (preL l)
 | [],_,_,_,h,_=>by simp at h
 | a::l,0,u,t,h,h2=>by
  obtain rfl:a=u:=by simpa using h
  exact wlt_appL _ _ h2 (wle_refl _)
 | a::l,i+1,u,t,h,h2=>wlt_appR _ (preL_set (i:=i) (by simpa using h) h2)
theorem preL_set':∀{l:List Tree} {i:Nat} {u t:Tree},l[i]?=some u→tlt u t→wlt (preL l) (preL (l.set i t))
 | [],_,_,_,h,_=>by simp at h
 | a::l,0,u,t,h,h2=>by
  obtain rfl:a=u:=by simpa using h
  exact wlt_appL _ _ h2 (wle_refl _)
 | a::l,i+1,u,t,h,h2=>wlt_appR _ (preL_set' (i:=i) (by simpa using h) h2)
theorem preL_mem:∀{l:List Tree} {t:Tree},t∈l→t.pre.length≤(preL l).length
 | a::l,t,h=>by
  show _≤(a.pre++preL l).length
  rw[List.length_append]
  rcases List.mem_cons.1 h with rfl | h
  ·omega
  ·have:=preL_mem h;omega
theorem kid_lt{r:Int}{t:Nat}{ks:List Tree}{k:Tree}(h:k∈ks):tlt k (.mk r t ks):=by
 refine .inl ?_
 show _<(r::preL ks).length
 have:=preL_mem h
 simp only[List.length_cons];omega
structure Fo where
 n:Nat
 leaf:Nat→Option Nat
 packs:Nat→List NPack
mutual
inductive NT(f:Fo):Nat→Tree→Prop
 | leaf {v t:Nat}:v<f.n→f.leaf v=some t→NT f v (.mk (-1) t [])
 | node {v:Nat} {p:NPack} {ts:List Tree}:v<f.n→f.leaf v=none→p∈f.packs v→NTs f p.kids ts→NT f v (.mk p.rule 0 ts)
inductive NTs(f:Fo):List Nat→List Tree→Prop
 | nil:NTs f [] []
 | cons {k:Nat} {t:Tree} {ks:List Nat} {ts:List Tree}:NT f k t→NTs f ks ts→NTs f (k::ks) (t::ts)
end
structure Fo.Good(f:Fo):Prop where
 kids:∀v,v<f.n→∀p∈f.packs v,p.kids.length≤4∧∀k∈p.kids,k<f.n
 dec:∀v T T',NT f v T→NT f v T'→T.pre=T'.pre→T=T'
 uniq:∀v,v<f.n→f.leaf v=none→∀(a b:Nat) (p q:NPack),(f.packs v)[a]?=some p→(f.packs v)[b]?=some q→p.rule=q.rule→∀ts,NTs f p.kids ts→NTs f q.kids ts→a=b
theorem NTs.len{f:Fo}:∀{ks:List Nat} {ts:List Tree},NTs f ks ts→ts.length=ks.length
 | [],[],_=>rfl
 | _::_,_::_,.cons _ h=>by simp[NTs.len h]
theorem NTs.at_{f:Fo}:∀{ks:List Nat} {ts:List Tree},NTs f ks ts→∀{i k:Nat} {t:Tree},ks[i]?=some k→ts[i]?=some t→NT f k t
 | _::_,_::_,.cons h h2,0,k,t,h3,h4=>by simp at h3 h4;subst h3 h4;exact h
 | _::_,_::_,.cons h h2,i+1,k,t,h3,h4=>NTs.at_ h2 (by simpa using h3) (by simpa using h4)
 | [],[],_,i,k,t,h3,_=>by simp at h3
theorem NTs.of_at{f:Fo}:∀{ks:List Nat} {ts:List Tree},ts.length=ks.length→(∀(i k:Nat) (t:Tree),ks[i]?=some k→ts[i]?=some t→NT f k t)→NTs f ks ts
 | [],[],_,_=>.nil
 | [],_::_,h,_=>by simp at h
 | _::_,[],h,_=>by simp at h
 | k::ks,t::ts,h,h2=>.cons (h2 0 k t rfl rfl) (NTs.of_at (by simpa using h) fun i k t h3 h4=>h2 (i+1) k t (by simpa using h3) (by simpa using h4))
theorem NTs.set{f:Fo}{ks:List Nat}{ts:List Tree}(h:NTs f ks ts){i k:Nat}{t:Tree}(hk:ks[i]?=some k)(ht:NT f k t):NTs f ks (ts.set i t):=by
 refine NTs.of_at (by rw[List.length_set];exact h.len) fun j k' t' h1 h2=>?_
 rw[List.getElem?_set] at h2
 split at h2
 ·rename_i e
  subst e
  rw[hk] at h1
  cases h1
  split at h2
  ·cases h2;exact ht
  ·cases h2
 ·exact h.at_ h1 h2
structure Cand where
 node:Nat
 pack:Nat
 r0:Nat
 r1:Nat
 r2:Nat
 r3:Nat
deriving DecidableEq
def Cand.ranks(c:Cand):List Nat:=[c.r0,c.r1,c.r2,c.r3]
def Cand.inc(c:Cand):Nat→Cand
 | 0=>{ c with r0:=c.r0+1 }
 | 1=>{ c with r1:=c.r1+1 }
 | 2=>{ c with r2:=c.r2+1 }
 | 3=>{ c with r3:=c.r3+1 }
 | _=>c
theorem Cand.inc_ranks(c:Cand){i r:Nat}(h:c.ranks[i]?=some r):(c.inc i).ranks=c.ranks.set i (r+1):=by
 match i,h with
 | 0,h=>simp[Cand.ranks] at h;subst h;rfl
 | 1,h=>simp[Cand.ranks] at h;subst h;rfl
 | 2,h=>simp[Cand.ranks] at h;subst h;rfl
 | 3,h=>simp[Cand.ranks] at h;subst h;rfl
 | _+4,h=>simp[Cand.ranks] at h
theorem Cand.inc_node(c:Cand)(i:Nat):(c.inc i).node=c.node∧(c.inc i).pack=c.pack:=by
 match i with
 | 0 | 1 | 2 | 3=>exact⟨rfl,rfl⟩
 | _+4=>exact⟨rfl,rfl⟩
theorem Cand.ext_{c d:Cand}(h1:c.node=d.node)(h2:c.pack=d.pack)(h3:c.ranks=d.ranks):c=d:=by
 cases c;cases d
 simp[Cand.ranks] at h3
 simp_all
def pick(L:Nat→List Tree):List Nat→List Nat→Option (List Tree)
 | [],_=>some []
 | k::ks,r::rs=>match (L k)[r]? with
  | some t=>match pick L ks rs with
   | some ts=>some (t::ts)
   | none=>none
  | none=>none
 | _::_,[]=>none
def miss(L:Nat→List Tree):List Nat→List Nat→Option (Nat×Nat)
 | k::ks,r::rs=>match (L k)[r]? with
  | some _=>miss L ks rs
  | none=>some (k,r)
 | _,_=>none
theorem pick_some{L:Nat→List Tree}:∀{ks rs:List Nat} {ts:List Tree},pick L ks rs=some ts→ts.length=ks.length∧∀(i k:Nat),ks[i]?=some k→∃(r:Nat) (t:Tree),rs[i]?=some r∧(L k)[r]?=some t∧ts[i]?=some t
 | [],_,ts,h=>by
  cases h
  exact⟨rfl,fun i k h=>by simp at h⟩
 | k::ks,[],_,h=>by cases h
 | k::ks,r::rs,ts,h=>by
  unfold pick at h
  split at h
  ·rename_i t ht
   split at h
   ·rename_i ts' hts
    cases h
    obtain⟨h1,h2⟩:=pick_some hts
    refine⟨by simp[h1],fun i k' hk=>?_⟩
    cases i with
    | zero=>
     obtain rfl:k=k':=by simpa using hk
     exact⟨r,t,rfl,ht,rfl⟩
    | succ i=>
     obtain⟨r',t',e1,e2,e3⟩:=h2 i k' (by simpa using hk)
     exact⟨r',t',by simpa using e1,e2,by simpa using e3⟩
   ·cases h
  ·cases h
theorem pick_of{L:Nat→List Tree}:∀{ks rs:List Nat} {ts:List Tree},ts.length=ks.length→(∀(i k:Nat),ks[i]?=some k→∃(r:Nat) (t:Tree),rs[i]?=some r∧(L k)[r]?=some t∧ts[i]?=some t)→pick L ks rs=some ts
 | [],_,ts,h,_=>by
  obtain rfl:ts=[]:=List.eq_nil_of_length_eq_zero h
  rfl
 | k::ks,rs,[],h,_=>by simp at h
 | k::ks,rs,t::ts,h,h2=>by
  obtain⟨r,t',e1,e2,e3⟩:=h2 0 k rfl
  obtain rfl:t=t':=by simpa using e3
  cases rs with
  | nil=>simp at e1
  | cons r' rs=>
   obtain rfl:r'=r:=by simpa using e1
   have ih:=pick_of (L:=L) (ks:=ks) (rs:=rs) (ts:=ts) (by simpa using h) (fun i k hk=>by
    obtain⟨r,t,g1,g2,g3⟩:=h2 (i+1) k (by simpa using hk)
    exact⟨r,t,by simpa using g1,g2,by simpa using g3⟩)
   unfold pick
   simp only[e2,ih]
theorem miss_none{L:Nat→List Tree}:∀{ks rs:List Nat},ks.length≤rs.length→miss L ks rs=none→∃ts,pick L ks rs=some ts
 | [],_,_,_=>⟨[],rfl⟩
 | k::ks,[],h,_=>by simp at h
 | k::ks,r::rs,h,h2=>by
  unfold miss at h2
  split at h2
  ·rename_i t ht
   obtain⟨ts,hts⟩:=miss_none (by simpa using h) h2
   exact⟨t::ts,by unfold pick;simp only[ht,hts]⟩
  ·cases h2
theorem miss_some{L:Nat→List Tree}:∀{ks rs:List Nat} {k r:Nat},miss L ks rs=some (k,r)→∃i:Nat,ks[i]?=some k∧rs[i]?=some r∧(L k)[r]?=none
 | [],_,_,_,h=>by cases h
 | _::_,[],_,_,h=>by cases h
 | k0::ks,r0::rs,k,r,h=>by
  unfold miss at h
  split at h
  ·obtain⟨i,h1,h2,h3⟩:=miss_some h
   exact⟨i+1,by simpa using h1,by simpa using h2,h3⟩
  ·rename_i hn
   cases h
   exact⟨0,rfl,rfl,hn⟩
def Grew(L L':Nat→List Tree):Prop:=∀v,∃x,L' v=L v++x
theorem Grew.at_{L L':Nat→List Tree}(h:Grew L L'){v r:Nat}{t:Tree}(ht:(L v)[r]?=some t):(L' v)[r]?=some t:=by
 obtain⟨x,hx⟩:=h v
 rw[hx,List.getElem?_append_left (gS ht).1]
 exact ht
theorem pick_grew{L L':Nat→List Tree}(h:Grew L L'){ks rs:List Nat}{ts:List Tree}(hp:pick L ks rs=some ts):pick L' ks rs=some ts:=by
 obtain⟨h1,h2⟩:=pick_some hp
 exact pick_of h1 fun i k hk=>by
  obtain⟨r,t,e1,e2,e3⟩:=h2 i k hk
  exact⟨r,t,e1,h.at_ e2,e3⟩
theorem miss_grew{L L':Nat→List Tree}(h:Grew L L'):∀{ks rs:List Nat} {k r:Nat},miss L ks rs=some (k,r)→(L' k)[r]?=none→miss L' ks rs=some (k,r)
 | [],_,_,_,h2,_=>by cases h2
 | _::_,[],_,_,h2,_=>by cases h2
 | k0::ks,r0::rs,k,r,h2,h3=>by
  unfold miss at h2
  split at h2
  ·rename_i t ht
   have:=h.at_ ht
   unfold miss
   simp only[this]
   exact miss_grew h h2 h3
  ·cases h2
   unfold miss
   simp only[h3]
structure Lst where
 lists:Nat→List Tree
 seen:List Cand
 waits:Nat×Nat→List Cand
 q:List (Cand×Tree)
def packAt(f:Fo)(c:Cand):Option NPack:=(f.packs c.node)[c.pack]?
def candTree(f:Fo)(L:Nat→List Tree)(c:Cand):Option Tree:=match packAt f c with
 | some p=>match pick L p.kids c.ranks with
  | some ts=>some (.mk p.rule 0 ts)
  | none=>none
 | none=>none
theorem candTree_some{f:Fo}{L:Nat→List Tree}{c:Cand}{T:Tree}(h:candTree f L c=some T):∃p ts,packAt f c=some p∧pick L p.kids c.ranks=some ts∧T=.mk p.rule 0 ts:=by
 unfold candTree at h
 split at h
 ·rename_i p hp
  split at h
  ·rename_i ts hts
   cases h
   exact⟨p,ts,hp,hts,rfl⟩
  ·cases h
 ·cases h
theorem candTree_of{f:Fo}{L:Nat→List Tree}{c:Cand}{p:NPack}{ts:List Tree}(h1:packAt f c=some p)(h2:pick L p.kids c.ranks=some ts):candTree f L c=some (.mk p.rule 0 ts):=by
 unfold candTree
 simp only[h1,h2]
theorem candTree_grew{f:Fo}{L L':Nat→List Tree}(h:Grew L L'){c:Cand}{T:Tree}(hc:candTree f L c=some T):candTree f L' c=some T:=by
 obtain⟨p,ts,h1,h2,rfl⟩:=candTree_some hc
 exact candTree_of h1 (pick_grew h h2)
structure CandOk(f:Fo)(most:Nat)(c:Cand):Prop where
 node:c.node<f.n
 nl:f.leaf c.node=none
 pack:∃p,packAt f c=some p
 rank:∀r∈c.ranks,r≤most
 zero:∀p,packAt f c=some p→∀(i r:Nat),p.kids.length≤i→c.ranks[i]?=some r→r=0
structure Inv(f:Fo)(most:Nat)(s:Lst)(done pend ex:List Cand):Prop where
 ok:∀c∈s.seen,CandOk f most c
 snd:s.seen.Nodup
 dsub:∀c∈done,c∈s.seen
 psub:∀c∈pend,c∈s.seen
 dnd:done.Nodup
 pnd:pend.Nodup
 qnd:(s.q.map (·.1)).Nodup
 wnd:∀w,(s.waits w).Nodup
 dq:∀c∈done,c∉s.q.map (·.1)∧c∉pend∧∀w,c∉s.waits w
 pq:∀c∈pend,c∉s.q.map (·.1)∧∀w,c∉s.waits w
 qw:∀c∈s.q.map (·.1),∀w,c∉s.waits w
 qok:∀x∈s.q,x.1∈s.seen∧candTree f s.lists x.1=some x.2
 wok:∀w,∀c∈s.waits w,c∈s.seen∧∃p,packAt f c=some p∧miss s.lists p.kids c.ranks=some w
 cover:∀c∈s.seen,c∈done∨c∈pend∨c∈s.q.map (·.1)∨∃w,c∈s.waits w
 next:∀c∈done,c∈ex∨(s.lists c.node).length=most∨((∃T∈s.lists c.node,candTree f s.lists c=some T)∧∀p,packAt f c=some p→∀i,i<p.kids.length→c.inc i∈s.seen)
 leafs:∀v t,v<f.n→f.leaf v=some t→s.lists v=[.mk (-1) t []]
 from_:∀v,f.leaf v=none→∀T∈s.lists v,∃c∈done,c.node=v∧candTree f s.lists c=some T
 len:∀v,(s.lists v).length≤most
 sorted:∀v,(s.lists v).Pairwise tlt
 ord:∀v,f.leaf v=none→∀x∈s.lists v,∀y∈s.q,tle x y.2
 valid:∀v,∀T∈s.lists v,NT f v T
 full:∀v,f.leaf v=none→(s.lists v).length=most→∀T,NT f v T→T∉s.lists v→∀x∈s.lists v,tlt x T
 small:∀v,∀T∈s.lists v,T.pre.length≤5000
def BaseIn(f:Fo)(s:Lst):Prop:=∀v,v<f.n→f.leaf v=none→∀p,p<(f.packs v).length→(⟨v,p,0,0,0,0⟩:Cand)∈s.seen
theorem pick_valid{f:Fo}{L:Nat→List Tree}(hv:∀v,∀T∈L v,NT f v T){ks rs:List Nat}{ts:List Tree}(h:pick L ks rs=some ts):NTs f ks ts:=by
 obtain⟨h1,h2⟩:=pick_some h
 exact NTs.of_at h1 fun i k t hk ht=>by
  obtain⟨r,t',e1,e2,e3⟩:=h2 i k hk
  rw[e3] at ht;cases ht
  exact hv _ _ (gM e2)
theorem cand_valid{f:Fo}{most:Nat}{L:Nat→List Tree}(hv:∀v,∀T∈L v,NT f v T){c:Cand}(hc:CandOk f most c){T:Tree}(h:candTree f L c=some T):NT f c.node T:=by
 obtain⟨p,ts,h1,h2,rfl⟩:=candTree_some h
 exact .node hc.node hc.nl (gM h1) (pick_valid hv h2)
theorem tlt_nodup{l:List Tree}(h:l.Pairwise tlt):l.Nodup:=by
 rw[List.nodup_iff_pairwise_ne]
 refine h.imp ?_
 rintro a b hab rfl
 exact wlt_irrefl _ hab
theorem nodup_at{α:Type}{l:List α}(h:l.Nodup){i j:Nat}{x:α}(hi:l[i]?=some x)(hj:l[j]?=some x):i=j:=by
 obtain⟨h1,h2⟩:=gS hi
 obtain⟨h3,h4⟩:=gS hj
 exact(List.getElem_inj h).1 (h2.trans h4.symm)
theorem cand_inj{f:Fo}(hf:f.Good){most:Nat}{L:Nat→List Tree}(hv:∀v,∀T∈L v,NT f v T)(hs:∀v,(L v).Pairwise tlt){c d:Cand}(hc:CandOk f most c)(hd:CandOk f most d)(hn:c.node=d.node){T:Tree}(h1:candTree f L c=some T)(h2:candTree f L d=some T):c=d:=by
 obtain⟨p,ts,e1,e2,rfl⟩:=candTree_some h1
 obtain⟨q,us,g1,g2,g3⟩:=candTree_some h2
 injection g3 with g3 _ g4
 subst g4
 have hr:p.rule=q.rule:=by omega
 unfold packAt at e1 g1
 rw[←hn] at g1
 have hp:=hf.uniq c.node hc.node hc.nl c.pack d.pack p q e1 g1 hr ts (pick_valid hv e2) (pick_valid hv g2)
 rw[←hp,e1] at g1
 cases g1
 refine Cand.ext_ hn hp (List.ext_getElem (by rfl) fun i hi hj=>?_)
 have r1:c.ranks[i]?=some c.ranks[i]:=gE hi
 have r2:d.ranks[i]?=some d.ranks[i]:=gE hj
 rcases Nat.lt_or_ge i p.kids.length with hk | hk
 ·obtain⟨k,hk⟩:∃k,p.kids[i]?=some k:=⟨_,gE hk⟩
  obtain⟨_,f1⟩:=pick_some e2
  obtain⟨_,f2⟩:=pick_some g2
  obtain⟨r,t,a1,a2,a3⟩:=f1 i k hk
  obtain⟨r',t',b1,b2,b3⟩:=f2 i k hk
  rw[a3] at b3;cases b3
  rw[r1] at a1;cases a1
  rw[r2] at b1;cases b1
  exact nodup_at (tlt_nodup (hs k)) a2 b2
 ·have z1:=hc.zero p (by unfold packAt;exact e1) i _ hk r1
  have z2:=hd.zero p (by unfold packAt;rw[←hn,←hp];exact e1) i _ hk r2
  omega
def tryS(f:Fo)(s:Lst)(c:Cand):Lst:=match packAt f c with
 | none=>s
 | some p=>match miss s.lists p.kids c.ranks with
  | some w=>{ s with waits:=fun x=>if x=w then s.waits w++[c] else s.waits x }
  | none=>match pick s.lists p.kids c.ranks with
   | some ts=>{ s with q:=s.q++[(c,.mk p.rule 0 ts)] }
   | none=>s
theorem try_lists(f:Fo)(s:Lst)(c:Cand):(tryS f s c).lists=s.lists∧(tryS f s c).seen=s.seen:=by
 unfold tryS
 split
 ·exact⟨rfl,rfl⟩
 ·split
  ·exact⟨rfl,rfl⟩
  ·split<;>exact⟨rfl,rfl⟩
theorem Inv.try_{f:Fo}(hf:f.Good){most:Nat}{s:Lst}{done pend ex:List Cand}{c:Cand}(h:Inv f most s done (c::pend) ex)(hT:∀T,candTree f s.lists c=some T→∀v,f.leaf v=none→∀x∈s.lists v,tle x T):Inv f most (tryS f s c) done pend ex:=by
 have hcs:=h.psub c me
 have hok:=h.ok c hcs
 obtain⟨p,hp⟩:=hok.pack
 have hkl:p.kids.length≤4:=(hf.kids _ hok.node p (gM hp)).1
 obtain⟨hcp,hpnd⟩:=List.nodup_cons.1 h.pnd
 have hcq:=h.pq c me
 have dq':∀d∈done,d≠c:=fun d hd e=>(h.dq d hd).2.1 (by rw[e];exact List.mem_cons_self ..)
 unfold tryS
 simp only[hp]
 cases hm:miss s.lists p.kids c.ranks with
 | some w=>
  simp only
  have wcase:∀x d,d∈(if x=w then s.waits w++[c] else s.waits x)→d∈s.waits x∨(x=w∧d=c):=by
   intro x d hd
   split at hd
   ·rename_i e
    subst e
    rcases List.mem_append.1 hd with hd | hd
    ·exact .inl hd
    ·exact .inr ⟨rfl,List.mem_singleton.1 hd⟩
   ·exact .inl hd
  exact
  {ok:=h.ok
   snd:=h.snd
   dsub:=h.dsub
   psub:=fun d hd=>h.psub d (List.mem_cons_of_mem _ hd)
   dnd:=h.dnd
   pnd:=hpnd
   qnd:=h.qnd
   wnd:=fun x=>by
    show (if x=w then s.waits w++[c] else s.waits x).Nodup
    split
    ·rw[List.nodup_append]
     refine⟨h.wnd w,by simp,fun a ha b hb e=>?_⟩
     rw[List.mem_singleton.1 hb] at e
     subst e
     exact hcq.2 w ha
    ·exact h.wnd x
   dq:=fun d hd=>⟨(h.dq d hd).1,fun hm=>(h.dq d hd).2.1 (List.mem_cons_of_mem _ hm),fun x hx=>by
    rcases wcase x d hx with hx | ⟨_,rfl⟩
    ·exact(h.dq d hd).2.2 x hx
    ·exact dq' d hd rfl⟩
   pq:=fun d hd=>⟨(h.pq d (List.mem_cons_of_mem _ hd)).1,fun x hx=>by
    rcases wcase x d hx with hx | ⟨_,rfl⟩
    ·exact(h.pq d (List.mem_cons_of_mem _ hd)).2 x hx
    ·exact hcp hd⟩
   qw:=fun d hd x hx=>by
    rcases wcase x d hx with hx | ⟨_,rfl⟩
    ·exact h.qw d hd x hx
    ·exact hcq.1 hd
   qok:=h.qok
   wok:=fun x d hd=>by
    rcases wcase x d hd with hx | ⟨rfl,rfl⟩
    ·exact h.wok x d hx
    ·exact⟨hcs,p,hp,hm⟩
   cover:=fun d hd=>by
    rcases h.cover d hd with hx | hx | hx | ⟨x,hx⟩
    ·exact .inl hx
    ·rcases List.mem_cons.1 hx with rfl | hx
     ·exact .inr (.inr (.inr ⟨w,by show d∈(if w=w then s.waits w++[d] else s.waits w);simp⟩))
     ·exact .inr (.inl hx)
    ·exact .inr (.inr (.inl hx))
    ·refine .inr (.inr (.inr ⟨x,?_⟩))
     show d∈(if x=w then s.waits w++[c] else s.waits x)
     split
     ·rename_i e;subst e;exact List.mem_append_left _ hx
     ·exact hx
   next:=h.next
   leafs:=h.leafs
   from_:=h.from_
   len:=h.len
   sorted:=h.sorted
   ord:=h.ord
   valid:=h.valid
   full:=h.full
   small:=h.small }
 | none=>
  simp only
  obtain⟨ts,hts⟩:=miss_none (by show p.kids.length≤4;exact hkl) hm
  have hct:=candTree_of hp hts
  simp only[hts]
  exact
  {ok:=h.ok
   snd:=h.snd
   dsub:=h.dsub
   psub:=fun d hd=>h.psub d (List.mem_cons_of_mem _ hd)
   dnd:=h.dnd
   pnd:=hpnd
   qnd:=by
    rw[List.map_append,List.nodup_append]
    refine⟨h.qnd,by simp,fun a ha b hb e=>?_⟩
    simp at hb
    subst hb e
    exact hcq.1 ha
   wnd:=h.wnd
   dq:=fun d hd=>⟨fun hx=>by
    rw[List.map_append] at hx
    rcases List.mem_append.1 hx with hx | hx
    ·exact(h.dq d hd).1 hx
    ·exact dq' d hd (by simpa using hx),fun hm=>(h.dq d hd).2.1 (List.mem_cons_of_mem _ hm),(h.dq d hd).2.2⟩
   pq:=fun d hd=>⟨fun hx=>by
    rw[List.map_append] at hx
    rcases List.mem_append.1 hx with hx | hx
    ·exact(h.pq d (List.mem_cons_of_mem _ hd)).1 hx
    ·have:d=c:=by simpa using hx
     subst this
     exact hcp hd,(h.pq d (List.mem_cons_of_mem _ hd)).2⟩
   qw:=fun d hx x hw=>by
    rw[List.map_append] at hx
    rcases List.mem_append.1 hx with hx | hx
    ·exact h.qw d hx x hw
    ·have:d=c:=by simpa using hx
     subst this
     exact hcq.2 x hw
   qok:=fun x hx=>by
    rcases List.mem_append.1 hx with hx | hx
    ·exact h.qok x hx
    ·rw[List.mem_singleton.1 hx];exact⟨hcs,hct⟩
   wok:=h.wok
   cover:=fun d hd=>by
    rcases h.cover d hd with hx | hx | hx | hx
    ·exact .inl hx
    ·rcases List.mem_cons.1 hx with rfl | hx
     ·exact .inr (.inr (.inl (by rw[List.map_append];simp)))
     ·exact .inr (.inl hx)
    ·exact .inr (.inr (.inl (by rw[List.map_append];exact List.mem_append_left _ hx)))
    ·exact .inr (.inr (.inr hx))
   next:=h.next
   leafs:=h.leafs
   from_:=h.from_
   len:=h.len
   sorted:=h.sorted
   ord:=fun v hv x hx y hy=>by
    rcases List.mem_append.1 hy with hy | hy
    ·exact h.ord v hv x hx y hy
    ·rw[List.mem_singleton.1 hy];exact hT _ hct v hv x hx
   valid:=h.valid
   full:=h.full
   small:=h.small }
def firstS(f:Fo)(s:Lst)(c:Cand):Lst:=if c∈s.seen then s else tryS f { s with seen:=s.seen++[c] } c
theorem first_lists(f:Fo)(s:Lst)(c:Cand):(firstS f s c).lists=s.lists∧(∀d∈s.seen,d∈(firstS f s c).seen)∧c∈(firstS f s c).seen∧(firstS f s c).seen.length≤s.seen.length+1:=by
 unfold firstS
 split
 ·rename_i h
  exact⟨rfl,fun d hd=>hd,h,by omega⟩
 ·obtain⟨h1,h2⟩:=try_lists f { s with seen:=s.seen++[c] } c
  rw[h2]
  exact⟨h1,fun d hd=>List.mem_append_left _ hd,by simp,by simp⟩
theorem Inv.pre_{f:Fo}{most:Nat}{s:Lst}{done ex:List Cand}{c:Cand}(h:Inv f most s done [] ex)(hc:CandOk f most c)(hn:c∉s.seen):Inv f most { s with seen:=s.seen++[c] } done [c] ex:=by
 have nw:∀{d:Cand},d∈s.seen→d∈s.seen++[c]:=fun h=>List.mem_append_left _ h
 have hq0:c∉s.q.map (·.1):=fun hx=>by
  obtain⟨y,hy,rfl⟩:=List.mem_map.1 hx
  exact hn (h.qok y hy).1
 exact
 {ok:=fun d hd=>by
   rcases List.mem_append.1 hd with hd | hd
   ·exact h.ok d hd
   ·rw[List.mem_singleton.1 hd];exact hc
  snd:=by
   show (s.seen++[c]).Nodup
   rw[List.nodup_append]
   refine⟨h.snd,by simp,fun a ha b hb e=>?_⟩
   rw[List.mem_singleton.1 hb] at e
   subst e
   exact hn ha
  dsub:=fun d hd=>nw (h.dsub d hd)
  psub:=fun d hd=>by rw[List.mem_singleton.1 hd];simp
  dnd:=h.dnd
  pnd:=by simp
  qnd:=h.qnd
  wnd:=h.wnd
  dq:=fun d hd=>⟨(h.dq d hd).1,fun hx=>by rw[List.mem_singleton.1 hx] at hd;exact hn (h.dsub c hd),(h.dq d hd).2.2⟩
  pq:=fun d hd=>by
   rw[List.mem_singleton.1 hd]
   exact⟨hq0,fun w hw=>hn (h.wok w c hw).1⟩
  qw:=h.qw
  qok:=fun x hx=>⟨nw (h.qok x hx).1,(h.qok x hx).2⟩
  wok:=fun w d hd=>⟨nw (h.wok w d hd).1,(h.wok w d hd).2⟩
  cover:=fun d hd=>by
   rcases List.mem_append.1 hd with hd | hd
   ·rcases h.cover d hd with hx | hx | hx
    ·exact .inl hx
    ·cases hx
    ·exact .inr (.inr hx)
   ·exact .inr (.inl hd)
  next:=fun d hd=>(h.next d hd).imp id fun hx=>hx.imp id fun hx=>⟨hx.1,fun p hp i hi=>nw (hx.2 p hp i hi)⟩
  leafs:=h.leafs
  from_:=h.from_
  len:=h.len
  sorted:=h.sorted
  ord:=h.ord
  valid:=h.valid
  full:=h.full
  small:=h.small }
theorem Inv.first_{f:Fo}(hf:f.Good){most:Nat}{s:Lst}{done ex:List Cand}{c:Cand}(h:Inv f most s done [] ex)(hc:CandOk f most c)(hT:∀T,candTree f s.lists c=some T→∀v,f.leaf v=none→∀x∈s.lists v,tle x T):Inv f most (firstS f s c) done [] ex:=by
 unfold firstS
 split
 ·exact h
 ·rename_i hn
  exact Inv.try_ hf (s:={ s with seen:=s.seen++[c] }) (h.pre_ hc hn) hT
theorem sub_all{α:Type}[DecidableEq α]:∀(A B:List α),A.Nodup→(∀x∈A,x∈B)→B.length≤A.length→∀x∈B,x∈A
 | [],B,_,_,h,x,hx=>by
  obtain rfl:B=[]:=List.eq_nil_of_length_eq_zero (by simpa using h)
  cases hx
 | a::A,B,hn,hs,hl,x,hx=>by
  obtain⟨h1,h2⟩:=List.nodup_cons.1 hn
  have ha:=hs a me
  have hle:=List.length_erase_of_mem ha
  have hpos:=List.length_pos_of_mem ha
  by_cases e:x=a
  ·subst e;exact List.mem_cons_self ..
  ·have hx':x∈B.erase a:=(List.mem_erase_of_ne e).2 hx
   refine List.mem_cons_of_mem _ (sub_all A (B.erase a) h2 (fun y hy=>?_) (by simp at hl;omega) x hx')
   exact(List.mem_erase_of_ne (by rintro rfl;exact h1 hy)).2 (hs y (List.mem_cons_of_mem _ hy))
theorem sub_len{α:Type}[DecidableEq α]:∀(A B:List α),A.Nodup→(∀x∈A,x∈B)→A.length≤B.length
 | [],_,_,_=>Nat.zero_le _
 | a::A,B,hn,hs=>by
  obtain⟨h1,h2⟩:=List.nodup_cons.1 hn
  have ha:=hs a me
  have hle:=List.length_erase_of_mem ha
  have hpos:=List.length_pos_of_mem ha
  have:=sub_len A (B.erase a) h2 fun y hy=>(List.mem_erase_of_ne (by rintro rfl;exact h1 hy)).2 (hs y (List.mem_cons_of_mem _ hy))
  simp only[List.length_cons];omega
open Classical in
noncomputable def unL(L:Nat→List Tree):List Nat→List Tree→Nat
 | k::ks,t::ts=>(if t∈L k then 0 else 1)+unL L ks ts
 | _,_=>0
theorem unL_le(L:Nat→List Tree):∀(ks:List Nat) (ts:List Tree),unL L ks ts≤ks.length
 | [],_=>Nat.le_refl _
 | _::_,[]=>Nat.zero_le _
 | k::ks,t::ts=>by
  have:=unL_le L ks ts
  unfold unL
  simp only[List.length_cons]
  split<;>omega
theorem unL_set{L:Nat→List Tree}:∀{ks:List Nat} {ts:List Tree} {i k:Nat} {t x:Tree},ks[i]?=some k→ts[i]?=some t→t∉L k→x∈L k→unL L ks (ts.set i x)<unL L ks ts
 | [],_,_,_,_,_,h,_,_,_=>by simp at h
 | _::_,[],_,_,_,_,_,h,_,_=>by simp at h
 | k0::ks,t0::ts,0,k,t,x,h1,h2,h3,h4=>by
  obtain rfl:k0=k:=by simpa using h1
  obtain rfl:t0=t:=by simpa using h2
  show unL L (k0::ks) (x::ts)<_
  unfold unL
  rw[if_pos h4,if_neg h3];omega
 | k0::ks,t0::ts,i+1,k,t,x,h1,h2,h3,h4=>by
  have:=unL_set (L:=L) (ks:=ks) (ts:=ts) (i:=i) (by simpa using h1) (by simpa using h2) h3 h4
  show unL L (k0::ks) (t0::ts.set i x)<_
  unfold unL
  omega
def Behind(s:Lst)(most:Nat)(v:Nat)(T:Tree):Prop:=T∈s.lists v∨(∃y∈s.q,tle y.2 T)∨((s.lists v).length=most∧∀x∈s.lists v,tlt x T)
theorem allLe_of:∀{l m:List Tree},l.length=m.length→(∀(i:Nat) (a b:Tree),l[i]?=some a→m[i]?=some b→tle a b)→allLe l m
 | [],[],_,_=>trivial
 | [],_::_,h,_=>by simp at h
 | _::_,[],h,_=>by simp at h
 | a::l,b::m,h,h2=>⟨h2 0 a b rfl rfl,allLe_of (by simpa using h) fun i a b h3 h4=>h2 (i+1) a b (by simpa using h3) (by simpa using h4)⟩
theorem sorted_le{l:List Tree}(h:l.Pairwise tlt){i j:Nat}{a b:Tree}(hij:i≤j)(ha:l[i]?=some a)(hb:l[j]?=some b):tle a b:=by
 rcases Nat.lt_or_ge i j with h1 | h1
 ·obtain⟨h2,rfl⟩:=gS ha
  obtain⟨h3,rfl⟩:=gS hb
  exact .inl (List.pairwise_iff_getElem.1 h i j h2 h3 h1)
 ·obtain rfl:i=j:=by omega
  rw[ha] at hb;cases hb
  exact wle_refl _
theorem ranks_ex{L:Nat→List Tree}:∀{ks:List Nat} {ts:List Tree},ts.length=ks.length→(∀(i k:Nat) (t:Tree),ks[i]?=some k→ts[i]?=some t→t∈L k)→
  ∃rs:List Nat,rs.length=ks.length∧∀(i k:Nat) (t:Tree),ks[i]?=some k→ts[i]?=some t→∃r,rs[i]?=some r∧(L k)[r]?=some t
 | [],_,_,_=>⟨[],rfl,fun i k t h=>by simp at h⟩
 | _::_,[],h,_=>by simp at h
 | k::ks,t::ts,h,h2=>by
  obtain⟨rs,h3,h4⟩:=ranks_ex (L:=L) (ks:=ks) (ts:=ts) (by simpa using h) fun i k t h5 h6=>h2 (i+1) k t (by simpa using h5) (by simpa using h6)
  obtain⟨r,hr⟩:=List.mem_iff_getElem?.1 (h2 0 k t rfl rfl)
  refine⟨r::rs,by simp[h3],fun i k' t' h5 h6=>?_⟩
  cases i with
  | zero=>
   obtain rfl:k=k':=by simpa using h5
   obtain rfl:t=t':=by simpa using h6
   exact⟨r,rfl,hr⟩
  | succ i=>
   obtain⟨r',e1,e2⟩:=h4 i k' t' (by simpa using h5) (by simpa using h6)
   exact⟨r',by simpa using e1,e2⟩
theorem pad_four:∀(rs:List Nat),rs.length≤4→∃c:Nat×Nat×Nat×Nat,(∀(i r:Nat),rs[i]?=some r→[c.1,c.2.1,c.2.2.1,c.2.2.2][i]?=some r)∧∀(i r:Nat),rs.length≤i→[c.1,c.2.1,c.2.2.1,c.2.2.2][i]?=some r→r=0
 | [],_=>⟨(0,0,0,0),fun i r h=>by simp at h,fun i r _ h=>by
   match i with
   | 0 | 1 | 2 | 3=>simpa using h.symm
   | _+4=>simp at h⟩
 | [a],_=>⟨(a,0,0,0),fun i r h=>by
   match i with
   | 0=>simpa using h
   | _+1=>simp at h,fun i r h0 h=>by
   match i with
   | 0=>simp at h0
   | 1 | 2 | 3=>simpa using h.symm
   | _+4=>simp at h⟩
 | [a,b],_=>⟨(a,b,0,0),fun i r h=>by
   match i with
   | 0 | 1=>simpa using h
   | _+2=>simp at h,fun i r h0 h=>by
   match i with
   | 0 | 1=>simp at h0
   | 2 | 3=>simpa using h.symm
   | _+4=>simp at h⟩
 | [a,b,c],_=>⟨(a,b,c,0),fun i r h=>by
   match i with
   | 0 | 1 | 2=>simpa using h
   | _+3=>simp at h,fun i r h0 h=>by
   match i with
   | 0 | 1 | 2=>simp at h0
   | 3=>simpa using h.symm
   | _+4=>simp at h⟩
 | [a,b,c,d],_=>⟨(a,b,c,d),fun i r h=>h,fun i r h0 h=>by
   match i with
   | 0 | 1 | 2 | 3=>simp at h0
   | _+4=>simp at h⟩
 | _::_::_::_::_::_,h=>by simp at h
theorem Inv.climb{f:Fo}(hf:f.Good){most:Nat}{s:Lst}{done:List Cand}(h:Inv f most s done [] []){z:Cand}{p:NPack}{ts:List Tree}(hz:packAt f z=some p)(hzt:pick s.lists p.kids z.ranks=some ts)
  (hz0:∀(i r:Nat),p.kids.length≤i→z.ranks[i]?=some r→r=0) (hv:NT f z.node (.mk p.rule 0 ts)) (hk4:p.kids.length≤4) :
  ∀(D:Nat) (c:Cand),c∈s.seen→c.node=z.node→c.pack=z.pack→c.r0≤z.r0→c.r1≤z.r1→c.r2≤z.r2→c.r3≤z.r3→z.r0+z.r1+z.r2+z.r3-(c.r0+c.r1+c.r2+c.r3)≤D→Behind s most z.node (.mk p.rule 0 ts):=by
 intro D
 induction D with
 | zero=>
  intro c hc hn hp h0 h1 h2 h3 hD
  obtain rfl:c=z:=by
   cases c;cases z
   simp only at hn hp h0 h1 h2 h3 hD
   simp only[Cand.mk.injEq]
   exact⟨hn,hp,by omega,by omega,by omega,by omega⟩
  have hct:=candTree_of hz hzt
  rcases h.cover c hc with hx | hx | hx | ⟨w,hx⟩
  ·rcases h.next c hx with hy | hy | ⟨⟨T,hy,hy2⟩,_⟩
   ·cases hy
   ·by_cases hm:Tree.mk p.rule 0 ts∈s.lists c.node
    ·exact .inl hm
    ·exact .inr (.inr ⟨hy,h.full _ (h.ok c hc).nl hy _ hv hm⟩)
   ·rw[hct] at hy2;cases hy2;exact .inl hy
  ·cases hx
  ·obtain⟨y,hy,rfl⟩:=List.mem_map.1 hx
   have:=(h.qok y hy).2
   rw[hct] at this
   exact .inr (.inl ⟨y,hy,by rw[←Option.some.inj this];exact wle_refl _⟩)
  ·obtain⟨_,p',hp',hm⟩:=h.wok w c hx
   rw[hz] at hp';cases hp'
   obtain⟨i,e1,e2,e3⟩:=miss_some (k:=w.1) (r:=w.2) hm
   obtain⟨r,t,g1,g2,_⟩:=(pick_some hzt).2 i _ e1
   rw[e2] at g1;cases g1
   rw[e3] at g2;cases g2
 | succ D ih=>
  intro c hc hn hp h0 h1 h2 h3 hD
  have hpc:packAt f c=some p:=by unfold packAt at hz ⊢;rw[hn,hp];exact hz
  by_cases e:c=z
  ·exact ih c hc hn hp h0 h1 h2 h3 (by subst e;omega)
  have hle:∀(i a b:Nat),c.ranks[i]?=some a→z.ranks[i]?=some b→a≤b:=fun i a b ha hb=>by
   match i with
   | 0 | 1 | 2 | 3=>simp[Cand.ranks] at ha hb;omega
   | _+4=>simp[Cand.ranks] at ha
  rcases h.cover c hc with hx | hx | hx | ⟨w,hx⟩
  ·rcases h.next c hx with hy | hy | ⟨_,hy⟩
   ·cases hy
   ·rw[hn] at hy
    by_cases hm:Tree.mk p.rule 0 ts∈s.lists z.node
    ·exact .inl hm
    ·exact .inr (.inr ⟨hy,h.full _ (hn▸(h.ok c hc).nl) hy _ hv hm⟩)
   ·have hy:=hy p hpc
    have lt:∀(i a b:Nat),c.ranks[i]?=some a→z.ranks[i]?=some b→a<b→i<p.kids.length:=fun i a b ha hb hab=>by
     rcases Nat.lt_or_ge i p.kids.length with h5 | h5
     ·exact h5
     ·have:=hz0 i b h5 hb;omega
    by_cases g0:c.r0<z.r0
    ·have hi:=hy 0 (lt 0 _ _ rfl rfl g0)
     exact ih (c.inc 0) hi hn hp g0 h1 h2 h3 (by show _-(c.r0+1+c.r1+c.r2+c.r3)≤D;omega)
    by_cases g1:c.r1<z.r1
    ·have hi:=hy 1 (lt 1 _ _ rfl rfl g1)
     exact ih (c.inc 1) hi hn hp h0 g1 h2 h3 (by show _-(c.r0+(c.r1+1)+c.r2+c.r3)≤D;omega)
    by_cases g2:c.r2<z.r2
    ·have hi:=hy 2 (lt 2 _ _ rfl rfl g2)
     exact ih (c.inc 2) hi hn hp h0 h1 g2 h3 (by show _-(c.r0+c.r1+(c.r2+1)+c.r3)≤D;omega)
    by_cases g3:c.r3<z.r3
    ·have hi:=hy 3 (lt 3 _ _ rfl rfl g3)
     exact ih (c.inc 3) hi hn hp h0 h1 h2 g3 (by show _-(c.r0+c.r1+c.r2+(c.r3+1))≤D;omega)
    exfalso
    apply e
    cases c;cases z
    simp only at hn hp h0 h1 h2 h3 g0 g1 g2 g3
    simp only[Cand.mk.injEq]
    exact⟨hn,hp,by omega,by omega,by omega,by omega⟩
  ·cases hx
  ·obtain⟨y,hy,rfl⟩:=List.mem_map.1 hx
   obtain⟨q,us,e1,e2,e3⟩:=candTree_some (h.qok y hy).2
   rw[hpc] at e1;cases e1
   refine .inr (.inl ⟨y,hy,?_⟩)
   rw[e3]
   refine wle_cons _ (preL_le (allLe_of (by rw[(pick_some e2).1,(pick_some hzt).1]) fun i a b ha hb=>?_))
   have hi:=(gS ha).1
   rw[(pick_some e2).1] at hi
   obtain⟨k,hk⟩:∃k,p.kids[i]?=some k:=⟨_,gE hi⟩
   obtain⟨r,t,a1,a2,a3⟩:=(pick_some e2).2 i k hk
   obtain⟨r',t',b1,b2,b3⟩:=(pick_some hzt).2 i k hk
   rw[ha] at a3;cases a3
   rw[hb] at b3;cases b3
   exact sorted_le (h.sorted k) (hle i _ _ a1 b1) a2 b2
  ·obtain⟨_,p',hp',hm⟩:=h.wok w c hx
   rw[hpc] at hp';cases hp'
   obtain⟨i,e1,e2,e3⟩:=miss_some (k:=w.1) (r:=w.2) hm
   obtain⟨r,t,g1,g2,_⟩:=(pick_some hzt).2 i _ e1
   have:=hle i _ _ e2 g1
   have h5:=(gS g2).1
   rw[gE (show w.2<_ by omega)] at e3
   cases e3
theorem set_inj{α:Type}{l:List α}{i:Nat}{a b:α}(h:i<l.length)(e:l.set i a=l.set i b):a=b:=by
 have h1:=congrArg (fun m=>m[i]?) e
 simpa [h] using h1
theorem Inv.behindN{f:Fo}(hf:f.Good){most:Nat}{s:Lst}{done:List Cand}(h:Inv f most s done [] [])(hb:BaseIn f s):∀(N v:Nat) (p:NPack) (ts:List Tree),v<f.n→f.leaf v=none→p∈f.packs v→NTs f p.kids ts→
  (Tree.mk p.rule 0 ts).pre.length*5+unL s.lists p.kids ts<N→Behind s most v (.mk p.rule 0 ts):=by
 intro N
 induction N with
 | zero=>intro v p ts _ _ _ _ hN;omega
 | succ N ih=>
  intro v p ts hv hl hp hts hN
  have hk4:=(hf.kids v hv p hp).1
  have hlen:=hts.len
  have hval:NT f v (.mk p.rule 0 ts):=.node hv hl hp hts
  by_cases hall:∀(i k:Nat) (t:Tree),p.kids[i]?=some k→ts[i]?=some t→t∈s.lists k
  ·obtain⟨rs,h1,h2⟩:=ranks_ex hlen hall
   obtain⟨⟨a0,a1,a2,a3⟩,h3,h4⟩:=pad_four rs zo
   obtain⟨j,hj⟩:=List.mem_iff_getElem?.1 hp
   have hjl:=(gS hj).1
   have hpk:pick s.lists p.kids [a0,a1,a2,a3]=some ts:=pick_of hlen fun i k hk=>by
    have hi:=(gS hk).1
    obtain⟨t,ht⟩:∃t,ts[i]?=some t:=⟨_,gE zo⟩
    obtain⟨r,e1,e2⟩:=h2 i k t hk ht
    exact⟨r,t,h3 i r e1,e2,ht⟩
   exact h.climb hf (z:=⟨v,j,a0,a1,a2,a3⟩) hj hpk (fun i r hi hr=>h4 i r zo hr) hval hk4 _ ⟨v,j,0,0,0,0⟩ (hb v hv hl j hjl) rfl rfl (Nat.zero_le _) (Nat.zero_le _) (Nat.zero_le _) (Nat.zero_le _) (Nat.le_refl _)
  ·have ⟨i,hall⟩:=Classical.not_forall.1 hall
   have ⟨k,hall⟩:=Classical.not_forall.1 hall
   have ⟨t,hall⟩:=Classical.not_forall.1 hall
   have ⟨hk,hall⟩:=Classical.not_imp.1 hall
   have ⟨ht,hnl⟩:=Classical.not_imp.1 hall
   have hkt:=hts.at_ hk ht
   have htm:=gM ht
   have hlt:=kid_lt (r:=p.rule) (t:=0) htm
   have hu:=unL_le s.lists p.kids ts
   have hB:Behind s most k t:=by
    cases hkt with
    | leaf h5 h6=>exact .inl (by rw[h.leafs k _ h5 h6];exact List.mem_cons_self ..)
    | @node _ q us h5 h6 h7 h8=>
     refine ih k q us h5 h6 h7 h8 ?_
     have h9:=unL_le s.lists q.kids us
     have h10:=(hf.kids k h5 q h7).1
     have h11:(Tree.mk (q.rule:Int) 0 us).pre.length<(Tree.mk (p.rule:Int) 0 ts).pre.length:=by
      show _<(_::preL ts).length
      have:=preL_mem htm
      simp only[List.length_cons];omega
     omega
   rcases hB with hB | ⟨y,hy,hB⟩ | ⟨hB1,hB2⟩
   ·exact absurd hB hnl
   ·exact .inr (.inl ⟨y,hy,.inl (wle_wlt hB hlt)⟩)
   ·have hil:i<ts.length:=(gS ht).1
    have small:∀x∈s.lists k,tlt (.mk p.rule 0 (ts.set i x)) (.mk p.rule 0 ts):=fun x hx=>wlt_cons _ (preL_set ht (hB2 x hx))
    have each:∀x∈s.lists k,Behind s most v (.mk p.rule 0 (ts.set i x)):=fun x hx=>by
     refine ih v p (ts.set i x) hv hl hp (hts.set hk (h.valid k x hx)) ?_
     have h1:=unL_set (L:=s.lists) hk ht hnl hx
     have h2:=wle_len (.inl (small x hx))
     omega
    by_cases hq:∃y∈s.q,tle y.2 (.mk p.rule 0 ts)
    ·exact .inr (.inl hq)
    by_cases hfull:(s.lists v).length=most∧∀z∈s.lists v,tlt z (.mk p.rule 0 ts)
    ·exact .inr (.inr hfull)
    have inl:∀x∈s.lists k,Tree.mk p.rule 0 (ts.set i x)∈s.lists v:=fun x hx=>by
     rcases each x hx with h1 | ⟨y,hy,h1⟩ | ⟨h1,h2⟩
     ·exact h1
     ·exact absurd ⟨y,hy,.inl (wle_wlt h1 (small x hx))⟩ hq
     ·exact absurd ⟨h1,fun z hz=>wlt_trans (h2 z hz) (small x hx)⟩ hfull
    exfalso
    apply hfull
    classical
    have hnd:((s.lists k).map fun x=>Tree.mk p.rule 0 (ts.set i x)).Nodup:=by
     rw[List.nodup_iff_pairwise_ne,List.pairwise_map]
     refine(List.nodup_iff_pairwise_ne.1 (tlt_nodup (h.sorted k))).imp fun hne e=>hne ?_
     injection e with _ _ e
     exact set_inj hil e
    have hsub:∀z∈(s.lists k).map (fun x=>Tree.mk p.rule 0 (ts.set i x)),z∈s.lists v:=fun z hz=>by
     obtain⟨x,hx,rfl⟩:=List.mem_map.1 hz
     exact inl x hx
    have hl1:=sub_len _ _ hnd hsub
    have hl2:=h.len v
    rw[List.length_map] at hl1
    refine⟨by omega,fun z hz=>?_⟩
    have:=sub_all _ _ hnd hsub (by rw[List.length_map];omega) z hz
    obtain⟨x,hx,rfl⟩:=List.mem_map.1 this
    exact small x hx
theorem Inv.behind{f:Fo}(hf:f.Good){most:Nat}{s:Lst}{done:List Cand}(h:Inv f most s done [] [])(hb:BaseIn f s){v:Nat}{T:Tree}(hT:NT f v T):Behind s most v T:=by
 cases hT with
 | leaf h5 h6=>exact .inl (by rw[h.leafs v _ h5 h6];exact List.mem_cons_self ..)
 | node h5 h6 h7 h8=>exact h.behindN hf hb _ _ _ _ h5 h6 h7 h8 (Nat.lt_succ_self _)
def updL(L:Nat→List Tree)(v:Nat)(T:Tree):Nat→List Tree:=fun x=>if x=v then L v++[T] else L x
theorem updL_grew(L:Nat→List Tree)(v:Nat)(T:Tree):Grew L (updL L v T):=fun x=>by
 unfold updL
 by_cases e:x=v
 ·subst e;exact⟨[T],by rw[if_pos rfl]⟩
 ·exact⟨[],by rw[if_neg e,List.append_nil]⟩
theorem updL_same(L:Nat→List Tree)(v:Nat)(T:Tree):updL L v T v=L v++[T]:=if_pos rfl
theorem updL_ne(L:Nat→List Tree){v x:Nat}(T:Tree)(h:x≠v):updL L v T x=L x:=if_neg h
theorem updL_mem{L:Nat→List Tree}{v x:Nat}{T t:Tree}(h:t∈updL L v T x):t∈L x∨(x=v∧t=T):=by
 unfold updL at h
 split at h
 ·rename_i e
  subst e
  rcases List.mem_append.1 h with h | h
  ·exact .inl h
  ·exact .inr ⟨rfl,List.mem_singleton.1 h⟩
 ·exact .inl h
theorem Inv.perm{f:Fo}{most:Nat}{s:Lst}{q:List (Cand×Tree)}{done pend ex:List Cand}(h:Inv f most s done pend ex)(hp:s.q.Perm q):Inv f most { s with q:=q } done pend ex where
 ok:=h.ok
 snd:=h.snd
 dsub:=h.dsub
 psub:=h.psub
 dnd:=h.dnd
 pnd:=h.pnd
 qnd:=(hp.map _).nodup_iff.1 h.qnd
 wnd:=h.wnd
 dq:=fun c hc=>⟨fun hx=>(h.dq c hc).1 ((hp.map _).mem_iff.2 hx),(h.dq c hc).2⟩
 pq:=fun c hc=>⟨fun hx=>(h.pq c hc).1 ((hp.map _).mem_iff.2 hx),(h.pq c hc).2⟩
 qw:=fun c hc=>h.qw c ((hp.map _).mem_iff.2 hc)
 qok:=fun x hx=>h.qok x (hp.mem_iff.2 hx)
 wok:=h.wok
 cover:=fun c hc=>(h.cover c hc).imp id fun hx=>hx.imp id fun hx=>hx.imp (fun hx=>(hp.map _).mem_iff.1 hx) id
 next:=h.next
 leafs:=h.leafs
 from_:=h.from_
 len:=h.len
 sorted:=h.sorted
 ord:=fun v hv x hx y hy=>h.ord v hv x hx y (hp.mem_iff.2 hy)
 valid:=h.valid
 full:=h.full
 small:=h.small
theorem Inv.drop{f:Fo}{most:Nat}{s:Lst}{q:List (Cand×Tree)}{done:List Cand}{c:Cand}{T:Tree}(h:Inv f most { s with q:=(c,T)::q } done [] [])(hfull:(s.lists c.node).length=most):Inv f most { s with q:=q } (c::done) [] []:=by
 have hc:=h.qok (c,T) me
 obtain⟨hcq,hqn⟩:=List.nodup_cons.1 (show (c::q.map (·.1)).Nodup from h.qnd)
 have hcd:c∉done:=fun hd=>(h.dq c hd).1 me
 exact
 {ok:=h.ok
  snd:=h.snd
  dsub:=fun d hd=>by
   rcases List.mem_cons.1 hd with rfl | hd
   ·exact hc.1
   ·exact h.dsub d hd
  psub:=h.psub
  dnd:=List.nodup_cons.2 ⟨hcd,h.dnd⟩
  pnd:=h.pnd
  qnd:=hqn
  wnd:=h.wnd
  dq:=fun d hd=>by
   rcases List.mem_cons.1 hd with rfl | hd
   ·exact⟨hcq,by simp,h.qw d me⟩
   ·exact⟨fun hx=>(h.dq d hd).1 (List.mem_cons_of_mem _ hx),(h.dq d hd).2⟩
  pq:=fun d hd=>by cases hd
  qw:=fun d hd=>h.qw d (List.mem_cons_of_mem _ hd)
  qok:=fun x hx=>h.qok x (List.mem_cons_of_mem _ hx)
  wok:=h.wok
  cover:=fun d hd=>by
   rcases h.cover d hd with hx | hx | hx | hx
   ·exact .inl (List.mem_cons_of_mem _ hx)
   ·cases hx
   ·rcases List.mem_cons.1 (show d∈c::q.map (·.1) from hx) with rfl | hx
    ·exact .inl me
    ·exact .inr (.inr (.inl hx))
   ·exact .inr (.inr (.inr hx))
  next:=fun d hd=>by
   rcases List.mem_cons.1 hd with rfl | hd
   ·exact .inr (.inl hfull)
   ·exact h.next d hd
  leafs:=h.leafs
  from_:=fun v hv T hT=>by
   obtain⟨d,h1,h2⟩:=h.from_ v hv T hT
   exact⟨d,List.mem_cons_of_mem _ h1,h2⟩
  len:=h.len
  sorted:=h.sorted
  ord:=fun v hv x hx y hy=>h.ord v hv x hx y (List.mem_cons_of_mem _ hy)
  valid:=h.valid
  full:=h.full
  small:=h.small }
def tookS(s:Lst)(c:Cand)(T:Tree)(q:List (Cand×Tree)):Lst:=
 ⟨updL s.lists c.node T,s.seen,fun w=>if w=(c.node,(s.lists c.node).length) then [] else s.waits w,q⟩
theorem miss_pick{L L':Nat→List Tree}{ks rs:List Nat}{k r:Nat}{ts:List Tree}{t:Tree}(hm:miss L ks rs=some (k,r))(hp:pick L' ks rs=some ts)(ht:(L' k)[r]?=some t):t∈ts:=by
 obtain⟨i,h1,h2,_⟩:=miss_some hm
 obtain⟨r',t',e1,e2,e3⟩:=(pick_some hp).2 i k h1
 rw[h2] at e1;cases e1
 rw[ht] at e2;cases e2
 exact gM e3
structure Took(f:Fo)(most:Nat)(s:Lst)(done:List Cand)(c:Cand)(T:Tree)(q:List (Cand×Tree)):Prop where
 inv:Inv f most (tookS s c T q) (c::done) (s.waits (c.node,(s.lists c.node).length)) [c]
 top:∀v,f.leaf v=none→∀x∈(tookS s c T q).lists v,tle x T
 wait:∀d∈s.waits (c.node,(s.lists c.node).length),∀U,candTree f (tookS s c T q).lists d=some U→tlt T U
 inc:∀p,packAt f c=some p→∀i,i<p.kids.length→CandOk f most (c.inc i)∧∀U,candTree f (tookS s c T q).lists (c.inc i)=some U→tlt T U
 mine:T∈(tookS s c T q).lists c.node∧candTree f (tookS s c T q).lists c=some T
theorem Inv.take{f:Fo}(hf:f.Good){most:Nat}{s:Lst}{q:List (Cand×Tree)}{done:List Cand}{c:Cand}{T:Tree}(h:Inv f most { s with q:=(c,T)::q } done [] [])(hb:BaseIn f s)(hmin:∀y∈q,tle T y.2)(hn:(s.lists c.node).length<most)(hsm:T.pre.length≤5000):Took f most s done c T q:=by
 obtain⟨hcs,hct⟩:=h.qok (c,T) me
 have hcs:c∈s.seen:=hcs
 have hct:candTree f s.lists c=some T:=hct
 have hok:=h.ok c hcs
 obtain⟨hcq,hqn⟩:=List.nodup_cons.1 (show (c::q.map (·.1)).Nodup from h.qnd)
 have hcd:c∉done:=fun hd=>(h.dq c hd).1 me
 have hg:=updL_grew s.lists c.node T
 have hval:∀v,∀t∈s.lists v,NT f v t:=h.valid
 have hsort:∀v,(s.lists v).Pairwise tlt:=h.sorted
 have hT:NT f c.node T:=cand_valid hval hok hct
 have hleT:∀v,f.leaf v=none→∀x∈s.lists v,tle x T:=fun v hv x hx=>h.ord v hv x hx (c,T) me
 have hnew:∀x∈s.lists c.node,tlt x T:=fun x hx=>by
  rcases hleT c.node hok.nl x hx with h1 | h1
  ·exact h1
  ·exfalso
   have e:=hf.dec c.node x T (hval _ x hx) hT h1
   subst e
   obtain⟨d,h2,h3,h4⟩:=h.from_ c.node hok.nl x hx
   have:=cand_inj hf hval hsort (h.ok d (h.dsub d h2)) hok h3 h4 hct
   subst this
   exact hcd h2
 have hTn:T∉s.lists c.node:=fun hx=>wlt_irrefl _ (hnew T hx)
 have hval':∀v,∀t∈updL s.lists c.node T v,NT f v t:=fun v t ht=>by
  rcases updL_mem ht with ht | ⟨rfl,rfl⟩
  ·exact hval v t ht
  ·exact hT
 have htop:∀v,f.leaf v=none→∀x∈updL s.lists c.node T v,tle x T:=fun v hv x hx=>by
  rcases updL_mem hx with hx | ⟨_,rfl⟩
  ·exact hleT v hv x hx
  ·exact wle_refl _
 have hsort':∀v,(updL s.lists c.node T v).Pairwise tlt:=fun v=>by
  unfold updL
  split
  ·rw[List.pairwise_append]
   refine⟨hsort _,by simp,fun a ha b hb=>?_⟩
   rw[List.mem_singleton.1 hb];exact hnew a ha
  ·exact hsort v
 have hlast:(updL s.lists c.node T c.node)[(s.lists c.node).length]?=some T:=by
  rw[updL_same,List.getElem?_append_right (Nat.le_refl _),Nat.sub_self];rfl
 have hbase:BaseIn f { s with q:=(c,T)::q }:=hb
 have hct':=candTree_grew hg hct
 have wsub:∀w,∀d∈(if w=(c.node,(s.lists c.node).length) then [] else s.waits w),d∈s.waits w:=fun w d hd=>by
  split at hd
  ·cases hd
  ·exact hd
 refine⟨?_,htop,fun d hd U hU=>?_,fun p hp i hi=>?_,?_,hct'⟩
 ·exact
  {ok:=h.ok
   snd:=h.snd
   dsub:=fun d hd=>by
    rcases List.mem_cons.1 hd with rfl | hd
    ·exact hcs
    ·exact h.dsub d hd
   psub:=fun d hd=>(h.wok _ d hd).1
   dnd:=List.nodup_cons.2 ⟨hcd,h.dnd⟩
   pnd:=h.wnd _
   qnd:=hqn
   wnd:=fun w=>by
    show (if w=(c.node,(s.lists c.node).length) then [] else s.waits w).Nodup
    split
    ·exact List.nodup_nil
    ·exact h.wnd w
   dq:=fun d hd=>by
    rcases List.mem_cons.1 hd with rfl | hd
    ·exact⟨hcq,h.qw d me _,fun w hw=>h.qw d me w (wsub w d hw)⟩
    ·exact⟨fun hx=>(h.dq d hd).1 (List.mem_cons_of_mem _ hx),(h.dq d hd).2.2 _,fun w hw=>(h.dq d hd).2.2 w (wsub w d hw)⟩
   pq:=fun d hd=>⟨fun hx=>h.qw d (List.mem_cons_of_mem _ hx) _ hd,fun w hw=>by
    have h1:=wsub w d hw
    obtain⟨_,p,hp,hm⟩:=h.wok w d h1
    obtain⟨_,p',hp',hm'⟩:=h.wok _ d hd
    rw[hp] at hp';cases hp'
    have e:w=(c.node,(s.lists c.node).length):=Option.some.inj (hm.symm.trans hm')
    have hw:d∈(if w=(c.node,(s.lists c.node).length) then [] else s.waits w):=hw
    rw[if_pos e] at hw
    cases hw⟩
   qw:=fun d hd w hw=>h.qw d (List.mem_cons_of_mem _ hd) w (wsub w d hw)
   qok:=fun x hx=>⟨(h.qok x (List.mem_cons_of_mem _ hx)).1,candTree_grew hg (h.qok x (List.mem_cons_of_mem _ hx)).2⟩
   wok:=fun w d hd=>by
    have h1:=wsub w d hd
    have hd:d∈(if w=(c.node,(s.lists c.node).length) then [] else s.waits w):=hd
    have hne:w≠(c.node,(s.lists c.node).length):=fun e=>by rw[if_pos e] at hd;cases hd
    obtain⟨h2,p,hp,hm⟩:=h.wok w d h1
    refine⟨h2,p,hp,miss_grew hg hm ?_⟩
    obtain⟨i,_,_,h3⟩:=miss_some (k:=w.1) (r:=w.2) hm
    have h3:(s.lists w.1)[w.2]?=none:=h3
    by_cases e:w.1=c.node
    ·rw[e] at h3
     rw[e,updL_same]
     rw[List.getElem?_eq_none_iff] at h3 ⊢
     rw[List.length_append,List.length_singleton]
     have:w.2≠(s.lists c.node).length:=fun e2=>hne (Prod.ext e e2)
     omega
    ·rw[updL_ne _ _ e];exact h3
   cover:=fun d hd=>by
    rcases h.cover d hd with hx | hx | hx | ⟨w,hx⟩
    ·exact .inl (List.mem_cons_of_mem _ hx)
    ·cases hx
    ·rcases List.mem_cons.1 (show d∈c::q.map (·.1) from hx) with rfl | hx
     ·exact .inl me
     ·exact .inr (.inr (.inl hx))
    ·by_cases e:w=(c.node,(s.lists c.node).length)
     ·subst e;exact .inr (.inl hx)
     ·exact .inr (.inr (.inr ⟨w,by show d∈(if w=(c.node,(s.lists c.node).length) then [] else s.waits w);rw[if_neg e];exact hx⟩))
   next:=fun d hd=>by
    rcases List.mem_cons.1 hd with rfl | hd
    ·exact .inl me
    ·rcases h.next d hd with hx | hx | ⟨⟨U,h1,h2⟩,h3⟩
     ·cases hx
     ·have hx:(s.lists d.node).length=most:=hx
      refine .inr (.inl ?_)
      show (updL s.lists c.node T d.node).length=most
      rw[updL_ne _ _ (fun e=>by rw[e] at hx;omega)];exact hx
     ·refine .inr (.inr ⟨⟨U,?_,candTree_grew hg h2⟩,h3⟩)
      obtain⟨x,hx⟩:=hg d.node
      show U∈updL s.lists c.node T d.node
      rw[hx];exact List.mem_append_left _ h1
   leafs:=fun v t hv ht=>by
    show updL s.lists c.node T v=_
    rw[updL_ne _ _ (fun e=>by rw[e,hok.nl] at ht;cases ht)]
    exact h.leafs v t hv ht
   from_:=fun v hv U hU=>by
    rcases updL_mem hU with hU | ⟨rfl,rfl⟩
    ·obtain⟨d,h1,h2,h3⟩:=h.from_ v hv U hU
     exact⟨d,List.mem_cons_of_mem _ h1,h2,candTree_grew hg h3⟩
    ·exact⟨c,List.mem_cons_self ..,rfl,hct'⟩
   len:=fun v=>by
    show (updL s.lists c.node T v).length≤most
    unfold updL
    split
    ·rw[List.length_append,List.length_singleton];omega
    ·exact h.len v
   sorted:=hsort'
   ord:=fun v hv x hx y hy=>wle_trans (htop v hv x hx) (hmin y hy)
   valid:=hval'
   full:=fun v hv hl U hU hUn x hx=>by
    by_cases e:v=c.node
    ·subst e
     have hUn:U∉updL s.lists c.node T c.node:=hUn
     rw[updL_same] at hUn
     have hU1:U∉s.lists c.node:=fun h1=>hUn (List.mem_append_left _ h1)
     have hU2:U≠T:=fun h1=>hUn (by rw[h1];simp)
     have hTU:tlt T U:=by
      have key:tle T U:=by
       rcases h.behind hf hbase hU with h1 | ⟨y,hy,h1⟩ | ⟨h1,_⟩
       ·exact absurd h1 hU1
       ·rcases List.mem_cons.1 hy with rfl | hy
        ·exact h1
        ·exact wle_trans (hmin y hy) h1
       ·have h1:(s.lists c.node).length=most:=h1
        omega
      rcases key with h1 | h1
      ·exact h1
      ·exact absurd (hf.dec c.node T U hT hU h1).symm hU2
     rcases updL_mem hx with hx | ⟨_,rfl⟩
     ·exact wlt_trans (hnew x hx) hTU
     ·exact hTU
    ·have hl:(updL s.lists c.node T v).length=most:=hl
     have hUn:U∉updL s.lists c.node T v:=hUn
     have hx:x∈updL s.lists c.node T v:=hx
     rw[updL_ne _ _ e] at hl hUn hx
     exact h.full v hv hl U hU hUn x hx
   small:=fun v U hU=>by
    rcases updL_mem hU with hU | ⟨rfl,rfl⟩
    ·exact h.small v U hU
    ·exact hsm }
 ·obtain⟨_,p,hp,hm⟩:=h.wok _ d hd
  obtain⟨p',ts,e1,e2,rfl⟩:=candTree_some hU
  rw[hp] at e1;cases e1
  exact kid_lt (miss_pick hm e2 hlast)
 ·obtain⟨p',ts,e1,e2,e3⟩:=candTree_some hct'
  rw[hp] at e1;cases e1
  obtain⟨k,hk⟩:∃k,p.kids[i]?=some k:=⟨_,gE hi⟩
  obtain⟨r,t,a1,a2,a3⟩:=(pick_some e2).2 i k hk
  have hir:=c.inc_ranks a1
  have hnp:=c.inc_node i
  have hpa:packAt f (c.inc i)=some p:=by unfold packAt at hp ⊢;rw[hnp.1,hnp.2];exact hp
  have hlen4:i<c.ranks.length:=(gS a1).1
  refine⟨⟨by rw[hnp.1];exact hok.node,by rw[hnp.1];exact hok.nl,⟨p,hpa⟩,fun x hx=>?_,fun p2 hp2 j x hj hx=>?_⟩,fun U hU=>?_⟩
  ·rw[hir] at hx
   rcases List.mem_or_eq_of_mem_set hx with hx | rfl
   ·exact hok.rank x hx
   ·obtain⟨p3,ts3,g1,g2,_⟩:=candTree_some hct
    rw[hp] at g1;cases g1
    obtain⟨r3,t3,b1,b2,_⟩:=(pick_some g2).2 i k hk
    rw[a1] at b1;cases b1
    have h1:=(gS b2).1
    have h2:(s.lists k).length≤most:=h.len k
    omega
  ·rw[hpa] at hp2;cases hp2
   rw[hir,List.getElem?_set_ne zo] at hx
   exact hok.zero p hp j x hj hx
  ·obtain⟨p3,us,g1,g2,rfl⟩:=candTree_some hU
   rw[hpa] at g1;cases g1
   rw[hir] at g2
   have h1:=pick_some g2
   have h2:=pick_some e2
   obtain⟨r',u,b1,b2,b3⟩:=h1.2 i k hk
   rw[List.getElem?_set_self hlen4] at b1
   obtain rfl:=Option.some.inj b1
   have e:us=ts.set i u:=by
    refine List.ext_getElem? fun j=>?_
    by_cases hij:i=j
    ·subst hij
     rw[b3,List.getElem?_set_self (by rw[h2.1];exact hi)]
    ·rw[List.getElem?_set_ne hij]
     by_cases hj:j<p.kids.length
     ·obtain⟨k2,hk2⟩:∃k,p.kids[j]?=some k:=⟨_,gE hj⟩
      obtain⟨r1,t1,c1,c2,c3⟩:=h1.2 j k2 hk2
      obtain⟨r2,t2,d1,d2,d3⟩:=h2.2 j k2 hk2
      rw[List.getElem?_set_ne hij,d1] at c1
      cases c1
      have c2:(updL s.lists c.node T k2)[r1]?=some t1:=c2
      rw[d2] at c2;cases c2
      rw[c3,d3]
     ·rw[List.getElem?_eq_none (by rw[h1.1];omega),List.getElem?_eq_none (by rw[h2.1];omega)]
   rw[e3,e]
   refine wlt_cons _ (preL_set' a3 ?_)
   have hs:=hsort' k
   obtain⟨q1,rfl⟩:=gS a2
   obtain⟨q2,rfl⟩:=gS b2
   exact List.pairwise_iff_getElem.1 hs _ _ q1 q2 (Nat.lt_succ_self _)
 ·show T∈updL s.lists c.node T c.node
  rw[updL_same];simp
theorem Inv.close{f:Fo}{most:Nat}{s:Lst}{done:List Cand}{c:Cand}{T:Tree}(h:Inv f most s (c::done) [] [c])(h1:T∈s.lists c.node)(h2:candTree f s.lists c=some T)(h3:∀p,packAt f c=some p→∀i,i<p.kids.length→c.inc i∈s.seen):Inv f most s (c::done) [] []:=
 {h with
  next:=fun d hd=>by
   rcases h.next d hd with hx | hx
   ·rw[List.mem_singleton.1 hx]
    exact .inr (.inr ⟨⟨T,h1,h2⟩,h3⟩)
   ·exact .inr hx }
structure Firsts(f:Fo)(v most:Nat)(l:List Tree):Prop where
 sorted:l.Pairwise tlt
 valid:∀T∈l,NT f v T
 len:l.length≤most
 small:∀T∈l,T.pre.length≤5000
 rest:∀T,NT f v T→T∉l→(∀x∈l,tlt x T)∧(l.length=most∨5000<T.pre.length)
theorem Inv.firsts{f:Fo}(hf:f.Good){most:Nat}{s:Lst}{done:List Cand}(h:Inv f most s done [] [])(hb:BaseIn f s){v:Nat}(hl:f.leaf v=none)(hend:(s.lists v).length=most∨∀y∈s.q,5000<y.2.pre.length):Firsts f v most (s.lists v):=by
 refine⟨h.sorted v,h.valid v,h.len v,h.small v,fun T hT hn=>?_⟩
 rcases hend with he | he
 ·exact⟨h.full v hl he T hT hn,.inl he⟩
 ·rcases h.behind hf hb hT with h1 | ⟨y,hy,h1⟩ | ⟨h1,h2⟩
  ·exact absurd h1 hn
  ·have h3:=he y hy
   have h4:=wle_len h1
   exact⟨fun x hx=>.inl (by have:=h.small v x hx;omega),.inr zo⟩
  ·exact⟨h2,.inl h1⟩
def tPtr:Ty Nat where
 size:=1
 rel:=fun _ l p=>l=[.pointer (some ⟨p,0,none⟩)]
 len:=fun _ _ _ h=>by rw[h];rfl
 one:=fun _ _ _ h=>by rw[h];rfl
 mono:=fun _ _ _ _ _ h=>h
mutual
inductive Sh(F:Frz):Nat→Tree→Prop
 | mk {p:Nat} {r:Int} {t:Nat} {ks:List Tree} {a:Option Addr} {n c:Nat} {ps:List Nat}:F p=some (.cells false [.int .i64 r,.int .i64 t,.int .i64 ((Tree.mk r t ks).pre.length:Nat),.slice a n c])→Arr tPtr F a n c ps→ShL F ps ks→Sh F p (.mk r t ks)
inductive ShL(F:Frz):List Nat→List Tree→Prop
 | nil:ShL F [] []
 | cons {p:Nat} {t:Tree} {ps:List Nat} {ts:List Tree}:Sh F p t→ShL F ps ts→ShL F (p::ps) (t::ts)
end
mutual
theorem Sh.mono{F G:Frz}(hF:Frz.le F G):∀{t:Tree} {p:Nat},Sh F p t→Sh G p t
 | .mk _ _ ks,_,.mk h1 h2 h3=>.mk (hF _ _ h1) (h2.mono hF) (ShL.mono hF h3)
theorem ShL.mono{F G:Frz}(hF:Frz.le F G):∀{ts:List Tree} {ps:List Nat},ShL F ps ts→ShL G ps ts
 | [],_,.nil=>.nil
 | _::_,_,.cons h1 h2=>.cons (Sh.mono hF h1) (ShL.mono hF h2)
end
theorem arr_ptr_uniq{F:Frz}{a:Option Addr}{n c:Nat}{ps qs:List Nat}(h:Arr tPtr F a n c ps)(h2:Arr tPtr F a n c qs):ps=qs:=by
 refine List.ext_getElem (by rw[←h.len,←h2.len]) fun i hi hj=>?_
 obtain⟨b,off,ro,cs,l,e1,e2,e3,e4⟩:=h.el i _ (gE hi)
 obtain⟨b',off',ro',cs',l',g1,g2,g3,g4⟩:=h2.el i _ (gE hj)
 rw[e1] at g1;cases g1
 rw[e2] at g2;cases g2
 rw[e3] at g3;cases g3
 have e4:l=_:=e4
 rw[e4] at g4
 have g4:[Value.pointer (some ⟨ps[i],0,none⟩)]=[Value.pointer (some ⟨qs[i],0,none⟩)]:=g4
 simpa using g4
mutual
theorem Sh.uniq{F:Frz}:∀{t u:Tree} {p:Nat},Sh F p t→Sh F p u→t=u
 | .mk _ _ ks,.mk _ _ ls,_,.mk h1 h2 h3,.mk g1 g2 g3=>by
  rw[h1] at g1
  simp only[Option.some.injEq,Blk.cells.injEq,true_and,List.cons.injEq,Value.int.injEq,Value.slice.injEq,and_true] at g1
  obtain⟨rfl,e2,_,rfl,rfl,rfl⟩:=g1
  obtain rfl:=Int.ofNat_inj.1 e2
  obtain rfl:=arr_ptr_uniq h2 g2
  rw[ShL.uniq h3 g3]
theorem ShL.uniq{F:Frz}:∀{ts us:List Tree} {ps:List Nat},ShL F ps ts→ShL F ps us→ts=us
 | [],[],_,_,_=>rfl
 | [],_::_,_,.nil,h=>by cases h
 | _::_,[],_,.cons _ _,h=>by cases h
 | _::_,_::_,_,.cons h1 h2,.cons g1 g2=>by rw[Sh.uniq h1 g1,ShL.uniq h2 g2]
end
theorem ShL.len{F:Frz}:∀{ps:List Nat} {ts:List Tree},ShL F ps ts→ts.length=ps.length
 | [],[],_=>rfl
 | _::_,_::_,.cons _ h=>by simp[ShL.len h]
theorem ShL.at_{F:Frz}:∀{ps:List Nat} {ts:List Tree},ShL F ps ts→∀{i p:Nat} {t:Tree},ps[i]?=some p→ts[i]?=some t→Sh F p t
 | _::_,_::_,.cons h h2,0,p,t,h3,h4=>by simp at h3 h4;subst h3 h4;exact h
 | _::_,_::_,.cons h h2,i+1,p,t,h3,h4=>ShL.at_ h2 (by simpa using h3) (by simpa using h4)
 | [],[],_,i,p,t,h3,_=>by simp at h3
theorem ShL.app{F:Frz}:∀{ps qs:List Nat} {ts us:List Tree},ShL F ps ts→ShL F qs us→ShL F (ps++qs) (ts++us)
 | [],_,[],_,_,h=>h
 | _::_,_,_::_,_,.cons h h1,h2=>.cons h (ShL.app h1 h2)
theorem preL_app:∀(a b:List Tree),preL (a++b)=preL a++preL b
 | [],_=>rfl
 | t::a,b=>by
  show t.pre++preL (a++b)=(t.pre++preL a)++preL b
  rw[preL_app a b,List.append_assoc]
theorem pre_pos(t:Tree):1≤t.pre.length:=by
 cases t with
 | mk r t ks=>show 1≤(r::preL ks).length;simp
theorem preL_ge:∀(ts:List Tree),ts.length≤(preL ts).length
 | []=>Nat.le_refl _
 | t::ts=>by
  have:=preL_ge ts
  have h2:=pre_pos t
  show _≤(t.pre++preL ts).length
  simp only[List.length_cons,List.length_append];omega
theorem lexLt_cancel:∀(a:List Int) {x y:List Int},lexLt (a++x) (a++y)↔lexLt x y
 | [],_,_=>Iff.rfl
 | b::a,x,y=>by
  show (b<b∨(b=b∧lexLt (a++x) (a++y)))↔_
  rw[lexLt_cancel a]
  constructor
  ·rintro(h | h)
   ·omega
   ·exact h.2
  ·exact fun h=>.inr ⟨rfl,h⟩
structure CmS where
 i:Nat
 v:Int
 a:Option Addr
 n:Nat
 c:Nat
 B:List (Nat×Blk)
 ps:List Nat
structure CoS2 where
 xa:Option Addr
 xn:Nat
 xc:Nat
 XB:List (Nat×Blk)
 xs:List Nat
 X:List Tree
 ya:Option Addr
 yn:Nat
 yc:Nat
 YB:List (Nat×Blk)
 ys:List Nat
 Y:List Tree
theorem ShL.rev{F:Frz}:∀{ps:List Nat} {ts:List Tree},ShL F ps ts→ShL F ps.reverse ts.reverse
 | [],[],_=>.nil
 | _::_,_::_,.cons h h2=>by
  rw[List.reverse_cons,List.reverse_cons]
  exact ShL.app (ShL.rev h2) (.cons h .nil)
theorem preL_cons(t:Tree)(ts:List Tree):preL (t::ts)=t.pre++preL ts:=rfl
theorem stack_top{F:Frz}{ps:List Nat}{ts:List Tree}(h:ShL F ps ts)(hn:0<ps.length):∃p t ps' ts',ps=ps'++[p]∧ts=ts'++[t]∧ShL F ps' ts'∧Sh F p t∧ps[ps.length-1]?=some p∧ps.take (ps.length-1)=ps':=by
 have h2:=h.rev
 cases hp:ps.reverse with
 | nil=>rw[List.reverse_eq_nil_iff] at hp;subst hp;simp at hn
 | cons p qs=>
  cases ht:ts.reverse with
  | nil=>rw[hp,ht] at h2;cases h2
  | cons t us=>
   rw[hp,ht] at h2
   cases h2 with
   | cons h3 h4=>
    have e1:ps=qs.reverse++[p]:=by rw[←List.reverse_reverse ps,hp,List.reverse_cons]
    have e2:ts=us.reverse++[t]:=by rw[←List.reverse_reverse ts,ht,List.reverse_cons]
    refine⟨p,t,qs.reverse,us.reverse,e1,e2,h4.rev,h3,?_,?_⟩
    ·rw[e1];simp
    ·rw[e1];simp
theorem tcompare_spec(F:Frz){p q:Nat}{a b:Tree}(ha:Sh F p a)(hb:Sh F q b)(hal:a.pre.length≤100000)(hbl:b.pre.length≤100000) :
  Abs.Spec CC 186 [.pointer (some ⟨p,0,none⟩),.pointer (some ⟨q,0,none⟩)] F [] fun _ v o=>o=[]∧∃z,v=.int .i64 z∧(z<0↔tlt a b):=by
 cases ha with
 | @mk _ ar at_ aks aa an ac aps ha1 ha2 ha3=>
 cases hb with
 | @mk _ br bt bks ba bn bc bps hb1 hb2 hb3=>
 refine Abs.Spec.fn (n:=124) Tryz.func186 rfl rfl fun own=>?_
 refine zB4 ?_
 refine AW.cond Z (fun hc=>?_) (fun hc=>?_)
 ·have hne:(Tree.mk ar at_ aks).pre.length≠(Tree.mk br bt bks).pre.length:=fun e=>by rw[e] at hc;simp at hc
  refine zB4 ?_
  refine WT.callV Tryz.func48 Z Z Z Z Z Z (compare_spec _ _ _) (fun v hv=>?_)
  subst hv
  refine zB4 ?_
  refine AW.ret ⟨_,[],⟨_,_,rfl,rfl,rfl⟩,zsb,rfl,_,rfl,?_⟩
  unfold cmpInt tlt wlt
  constructor
  ·intro h
   left
   split at h
   ·omega
   ·split at h<;>omega
  ·rintro(h | h)
   ·rw[if_pos zo];decide
   ·exact absurd h.1 hne
 ·have heq:(Tree.mk ar at_ aks).pre.length=(Tree.mk br bt bks).pre.length:=by simp at hc;omega
  have hA:Sh F p (.mk ar at_ aks):=.mk ha1 ha2 ha3
  have hB:Sh F q (.mk br bt bks):=.mk hb1 hb2 hb3
  generalize Tree.mk ar at_ aks=a at *
  generalize Tree.mk br bt bks=b at *
  refine zB4 ?_
  refine WT.buildT hT Z Z Z Z Z Z Z Z Z Z Z Z Z Z (fun i30 hi30=>?_)
  refine zB4 ?_
  refine WT.buildT hT Z Z Z Z Z Z Z Z Z Z Z Z Z Z (fun i32 hi32=>?_)
  refine zB4 ?_
  refine AW.block ?_
  refine AW.loopR (S:=CoS2) (fun s=>[(5,.slice s.xa s.xn s.xc),(6,.slice s.ya s.yn s.yc)]) (fun s=>s.YB::s.XB::own)
   (fun s G=>GB tPtr G s.xa s.xn s.xc s.XB s.xs∧ShL G s.xs s.X∧GB tPtr G s.ya s.yn s.yc s.YB s.ys∧ShL G s.ys s.Y∧(preL s.X.reverse).length=(preL s.Y.reverse).length∧(lexLt a.pre b.pre↔lexLt (preL s.X.reverse) (preL s.Y.reverse))∧(preL s.X.reverse).length≤100000)
   (fun s=>(preL s.X.reverse).length) ⟨_,_,_,_,[p],[a],_,_,_,_,[q],[b]⟩
   sM oR ⟨⟨rfl,.inr ⟨_,_,[],rfl,rfl,rfl,Cells.single (R:=tPtr) rfl,by decide⟩⟩,.cons hA .nil,⟨rfl,.inr ⟨_,_,[],rfl,rfl,rfl,Cells.single (R:=tPtr) rfl,by decide⟩⟩,.cons hB .nil,?_,?_,?_⟩ ?_
  ·simpa [preL] using heq
  ·simp[preL]
  ·simpa [preL] using hal
  intro s F1 hF1 hP
  obtain⟨hx,hX,hy,hY,hlen,hlex,hsm⟩:=hP
  have hxl:=hx.len
  have hyl:=hy.len
  refine zB4 ?_
  have hxr:=hX.len
  have hyr:=hY.len
  have hxg:=preL_ge s.X.reverse
  have hyg:=preL_ge s.Y.reverse
  rw[List.length_reverse] at hxg hyg
  have full:0<s.xn→0<s.yn:=fun h=>by
   obtain⟨p1,t1,ps1,ts1,e1,e2,_,_,_,_⟩:=stack_top hX zo
   rw[e2] at hlen
   simp only[List.reverse_append,List.reverse_cons,List.reverse_nil,List.nil_append,List.cons_append,preL_cons,List.length_append] at hlen
   have:=pre_pos t1
   rcases Nat.eq_zero_or_pos s.yn with h0 | h0
   ·exfalso
    have:s.Y=[]:=List.eq_nil_of_length_eq_zero zo
    have:(preL s.Y.reverse).length=0:=by rw[this];rfl
    omega
   ·exact h0
  refine WT.split 36 Z (fun hc1=>?_) (fun hc1=>?_)
  rotate_left
  ·have hx0:s.X=[]:=List.eq_nil_of_length_eq_zero (by simp at hc1;omega)
   refine zB4 ?_
   refine AW.cond Z (fun h=>(by cases h)) (fun _=>?_)
   refine AW.exit ?_
   refine zB4 ?_
   refine AW.ret ⟨_,[],⟨_,_,rfl,rfl,rfl⟩,zsb,rfl,_,rfl,?_⟩
   have hX0:preL s.X.reverse=[]:=by rw[hx0];rfl
   have hY0:preL s.Y.reverse=[]:=List.eq_nil_of_length_eq_zero (by rw[←hlen,hX0];rfl)
   rw[hX0,hY0] at hlex
   constructor
   ·intro h;omega
   ·rintro(h | h)
    ·omega
    ·exact(hlex.1 h.2).elim
  ·have hx1:0<s.xn:=by simpa using hc1
   have hy1:=full hx1
   obtain⟨p1,t1,ps1,ts1,ep1,et1,hX1,hp1,hgx,htx⟩:=stack_top hX zo
   obtain⟨q1,u1,qs1,us1,eq1,eu1,hY1,hq1,hgy,hty⟩:=stack_top hY zo
   refine zC4 ?_
   refine AW.cond Z (fun _=>?_) (fun h=>?_)
   rotate_left
   ·simp at h;omega
   refine zC4 ?_
   refine AW.block ?_
   refine zC4 ?_
   refine WT.gidx hT hx Z Z Z Z Z Z Z Z Z zo (fun b1 hb1=>?_)
   refine WT.gld1 (x:=p1) hT 1 hx hb1 (by rw[hxl];exact hgx) Z Z Z Z Z Z (fun z hz=>hz) Z Z Z (fun v hv=>?_)
   obtain rfl:v=_:=(List.singleton_inj.1 hv)
   refine zC4 ?_
   refine WT.gidx hT hy Z Z Z Z Z Z Z Z Z zo (fun b2 hb2=>?_)
   refine WT.gld1 (x:=q1) hT 0 hy hb2 (by rw[hyl];exact hgy) Z Z Z Z Z Z (fun z hz=>hz) Z Z Z (fun v hv=>?_)
   obtain rfl:v=_:=(List.singleton_inj.1 hv)
   refine zC4 ?_
   refine WT.sliceG hT hx Z Z Z Z Z Z Z Z Z (show s.xn-1≤s.xn by omega) ?_
   refine zC4 ?_
   refine WT.sliceG hT hy Z Z Z Z Z Z Z Z Z (show s.yn-1≤s.yn by omega) ?_
   refine zC4 ?_
   have hx2:=(hx.take (show s.xn-1≤s.xn by omega))
   have hy2:=(hy.take (show s.yn-1≤s.yn by omega))
   rw[show s.xs.take (s.xn-1)=ps1 by rw[hxl];exact htx] at hx2
   rw[show s.ys.take (s.yn-1)=qs1 by rw[hyl];exact hty] at hy2
   have fx:∃cs,F1 p1=some (.cells false cs):=by cases hp1 with | mk h _ _=>exact⟨_,h⟩
   have fy:∃cs,F1 q1=some (.cells false cs):=by cases hq1 with | mk h _ _=>exact⟨_,h⟩
   obtain⟨fxc,fx⟩:=fx
   obtain⟨fyc,fy⟩:=fy
   have elenx:(preL s.X.reverse)=t1.pre++preL ts1.reverse:=by rw[et1,List.reverse_append];rfl
   have eleny:(preL s.Y.reverse)=u1.pre++preL us1.reverse:=by rw[eu1,List.reverse_append];rfl
   have hsm0:=hsm
   have hlen0:=hlen
   rw[elenx,eleny] at hlen hlex
   rw[elenx] at hsm
   refine WT.ptrEq hT Z Z Z Z Z Z fx fy Z Z Z ?_
   refine zC4 ?_
   refine AW.cond Z (fun he=>?_) (fun he=>?_)
   ·obtain rfl:p1=q1:=by simpa using he
    obtain rfl:=Sh.uniq hp1 hq1
    refine AW.exit ?_
    skip
    refine⟨⟨_,_,_,_,ps1,ts1,_,_,_,_,qs1,us1⟩,?_,sM,zow,hx2,hX1,hy2,hY1,?_,?_,?_⟩
    ·show (preL ts1.reverse).length<_
     have:=pre_pos t1
     rw[elenx,List.length_append];omega
    ·simp only[List.length_append] at hlen
     show (preL ts1.reverse).length=(preL us1.reverse).length
     omega
    ·rw[hlex,lexLt_cancel]
    ·simp only[List.length_append] at hsm
     show (preL ts1.reverse).length≤_
     omega
   have hp0:=hp1
   have hq0:=hq1
   cases hp1 with
   | @mk _ tr tt tks ta tn tc tps g1 g2 g3=>
   cases hq1 with
   | @mk _ ur ut uks ua un uc ups k1 k2 k3=>
   refine zC4 ?_
   refine AW.cond Z (fun hc=>?_) (fun hc=>?_)
   ·have hne:tr≠ur:=by simpa using hc
    refine zC4 ?_
    refine WT.callV Tryz.func48 Z Z Z Z Z Z (compare_spec _ _ _) (fun v hv=>?_)
    subst hv
    refine zC4 ?_
    refine AW.ret ⟨_,[],⟨_,_,rfl,rfl,rfl⟩,zsb,rfl,_,rfl,?_⟩
    have e:lexLt a.pre b.pre↔tr<ur:=by
     rw[hlex]
     show (tr<ur∨(tr=ur∧_))↔_
     constructor
     ·rintro(h | h)
      ·exact h
      ·exact absurd h.1 hne
     ·exact fun h=>.inl h
    unfold cmpInt tlt wlt
    constructor
    ·intro h
     right
     refine⟨heq,e.2 ?_⟩
     split at h
     ·assumption
     ·split at h<;>omega
    ·rintro(h | h)
     ·omega
     ·rw[if_pos (e.1 h.2)];decide
   ·obtain rfl:tr=ur:=by simpa using hc
    have htl:=g2.len
    have hul:=k2.len
    have gl:=g3.len
    have kl:=k3.len
    have hb1:tn≤100000:=by
     have h1:=preL_ge tks
     have h2:(Tree.mk tr tt tks).pre.length=(preL tks).length+1:=rfl
     rw[List.length_append,h2] at hsm
     omega
    have hb2:un≤100000:=by
     have h1:=preL_ge uks
     have h2:(Tree.mk tr ut uks).pre.length=(preL uks).length+1:=rfl
     have h3:=hlen
     rw[List.length_append,List.length_append,h2] at h3
     rw[List.length_append] at hsm
     omega
    have hx2l:=hx2.len
    have hy2l:=hy2.len
    have hps1:s.xs.length=ps1.length+1:=by rw[ep1];simp
    have hqs1:s.ys.length=qs1.length+1:=by rw[eq1];simp
    refine zB4 ?_
    refine AW.block ?_
    refine AW.loopR (S:=CmS) (fun z=>[(9,.int .i64 z.v),(5,.slice z.a z.n z.c)]) (fun z=>s.YB::z.B::own)
     (fun z G=>GB tPtr G z.a z.n z.c z.B z.ps∧z.i≤tn∧z.ps=ps1++tps.reverse.take z.i∧z.v=(tn:Int)-1-z.i) (fun z=>tn-z.i) ⟨0,_,_,_,_,_,ps1⟩
     sM oR ⟨hx2,Nat.zero_le _,by simp,by simp⟩ ?_
    intro z F2 hF2 hQ
    obtain⟨hz,hzi,hzp,hzv⟩:=hQ
    have hzl:=hz.len
    have hzb:z.ps.length≤300000:=by
     rw[hzp];simp;omega
    have gA:=(hF2) _ _ g1
    have gB:=g2.mono (hF2)
    refine zB4 ?_
    refine AW.cond Z (fun hc3=>?_) (fun hc3=>?_)
    ·have hc3:z.i<tn:=by simp at hc3;omega
     refine zB4 ?_
     refine AW.block ?_
     refine zB4 ?_
     refine WT.know (v':=.int .i64 ((tn-1-z.i:Nat):Int)) 99 Z (by congr 1;omega) ?_
     refine WT.idxL (j:=tn-1-z.i) hT gB Z Z Z Z Z Z Z Z Z zo (fun y hy7 b7 off7 ro7 cs7 lx7 hb7 hp7 hrel7=>?_)
     obtain rfl:lx7=_:=hrel7
     refine zB4 ?_
     refine WT.buildT hT Z Z Z Z Z Z Z Z Z Z Z Z Z Z (fun i9 hi9=>?_)
     refine WT.appendG (ys:=[y]) hT 2 hz Z (fun _=>rfl) Z Z Z Z Z Z Z Z Z Z Z (fun h0 s0=>news_own hT s0 0 Z Z Z Z) (Cells.single (R:=tPtr) (x:=y) rfl) Z (by decide) zom (fun a3 c3 B3 hB3=>?_)
     refine zB4 ?_
     refine⟨⟨z.i+1,z.v-1,a3,z.n+1,c3,B3,z.ps++[y]⟩,by show tn-(z.i+1)<tn-z.i;omega,sM,zow,hB3.gb,by show z.i+1≤tn;omega,?_,by show z.v-1=_-_-((z.i+1:Nat):Int);omega⟩
     show z.ps++[y]=_++tps.reverse.take (z.i+1)
     rw[hzp,List.take_add_one,List.getElem?_reverse zo,show tps.length-1-z.i=tn-1-z.i by omega,hy7,List.append_assoc];rfl
    ·have hzi:z.i=tn:=by simp at hc3;omega
     rw[hzi,List.take_of_length_le (by simp;omega)] at hzp
     have hz1:=hz
     have hzp1:=hzp
     have k1':=hF2 _ _ k1
     refine AW.exit ?_
     refine zB4 ?_
     refine AW.block ?_
     refine AW.loopR (S:=CmS) (fun z=>[(10,.int .i64 z.v),(6,.slice z.a z.n z.c)]) (fun zz=>zz.B::z.B::own)
      (fun z G=>GB tPtr G z.a z.n z.c z.B z.ps∧z.i≤un∧z.ps=qs1++ups.reverse.take z.i∧z.v=(un:Int)-1-z.i) (fun z=>un-z.i) ⟨0,_,_,_,_,_,qs1⟩
      sM oR ⟨(hy2.mono hF2),Nat.zero_le _,by simp,by simp⟩ ?_
     intro zy F3 hF3 hQ
     obtain⟨hz,hzi,hzp,hzv⟩:=hQ
     have hzl:=hz.len
     have hzb:zy.ps.length≤300000:=by
      rw[hzp];simp;omega
     have gA:=(hF2.trans hF3) _ _ k1
     have gB:=k2.mono (hF2.trans hF3)
     refine zB4 ?_
     refine AW.cond Z (fun hc3=>?_) (fun hc3=>?_)
     ·have hc3:zy.i<un:=by simp at hc3;omega
      refine zB4 ?_
      refine AW.block ?_
      refine zB4 ?_
      refine WT.know (v':=.int .i64 ((un-1-zy.i:Nat):Int)) 119 Z (by congr 1;omega) ?_
      refine WT.idxL (j:=un-1-zy.i) hT gB Z Z Z Z Z Z Z Z Z zo (fun y hy7 b7 off7 ro7 cs7 lx7 hb7 hp7 hrel7=>?_)
      obtain rfl:lx7=_:=hrel7
      refine zB4 ?_
      refine WT.buildT hT Z Z Z Z Z Z Z Z Z Z Z Z Z Z (fun i9 hi9=>?_)
      refine WT.appendG (ys:=[y]) hT 1 hz Z (fun _=>rfl) Z Z Z Z Z Z Z Z Z Z Z (fun h0 s0=>news_own hT s0 0 Z Z Z Z) (Cells.single (R:=tPtr) (x:=y) rfl) Z (by decide) zom (fun a3 c3 B3 hB3=>?_)
      refine zB4 ?_
      refine⟨⟨zy.i+1,zy.v-1,a3,zy.n+1,c3,B3,zy.ps++[y]⟩,by show un-(zy.i+1)<un-zy.i;omega,sM,zow,hB3.gb,by show zy.i+1≤un;omega,?_,by show zy.v-1=_-_-((zy.i+1:Nat):Int);omega⟩
      show zy.ps++[y]=_++ups.reverse.take (zy.i+1)
      rw[hzp,List.take_add_one,List.getElem?_reverse zo,show ups.length-1-zy.i=un-1-zy.i by omega,hy7,List.append_assoc];rfl
     ·have hzyi:zy.i=un:=by simp at hc3;omega
      rw[hzyi,List.take_of_length_le (by simp;omega)] at hzp
      have hz2:GB tPtr F3 z.a z.n z.c z.B z.ps:=hz1.mono hF3
      refine AW.exit ?_
      skip
      have e1:preL (ts1++tks.reverse).reverse=preL tks++preL ts1.reverse:=by
       rw[List.reverse_append,List.reverse_reverse,preL_app]
      have e2:preL (us1++uks.reverse).reverse=preL uks++preL us1.reverse:=by
       rw[List.reverse_append,List.reverse_reverse,preL_app]
      have e3:(Tree.mk tr tt tks).pre=tr::preL tks:=rfl
      have e4:(Tree.mk tr ut uks).pre=tr::preL uks:=rfl
      rw[e3,e4] at hlen hlex
      rw[e3] at elenx
      refine⟨⟨_,_,_,z.B,z.ps,ts1++tks.reverse,_,_,_,zy.B,zy.ps,us1++uks.reverse⟩,?_,sM,zow,hz2,?_,hz,?_,?_,?_,?_⟩
      ·show (preL (ts1++tks.reverse).reverse).length<(preL s.X.reverse).length
       rw[e1,elenx];simp
      ·show ShL F3 z.ps (ts1++tks.reverse)
       rw[hzp1]
       exact ShL.app (hX1.mono (hF2.trans hF3)) (g3.mono (hF2.trans hF3)).rev
      ·show ShL F3 zy.ps (us1++uks.reverse)
       rw[hzp]
       exact ShL.app (hY1.mono (hF2.trans hF3)) (k3.mono (hF2.trans hF3)).rev
      ·show (preL (ts1++tks.reverse).reverse).length=(preL (us1++uks.reverse).reverse).length
       rw[e1,e2]
       simp only[List.cons_append,List.length_cons,List.length_append] at hlen ⊢
       omega
      ·show _↔lexLt (preL (ts1++tks.reverse).reverse) (preL (us1++uks.reverse).reverse)
       rw[hlex,e1,e2]
       exact lexLt_cancel [tr]
      ·show (preL (ts1++tks.reverse).reverse).length≤100000
       rw[e1]
       rw[elenx] at hsm0
       simp only[List.cons_append,List.length_cons] at hsm0
       omega
def keyAt(Q:List (Cand×Tree))(i:Nat):List Int:=match Q[i]? with
 | some x=>x.2.pre
 | none=>[]
def HeapN(Q:List (Cand×Tree))(n:Nat):Prop:=∀i,0<i→i<n→wle (keyAt Q ((i-1) / 2)) (keyAt Q i)
structure UpOk(Q:List (Cand×Tree))(j:Nat):Prop where
 one:∀k,0<k→k<Q.length→k≠j→wle (keyAt Q ((k-1) / 2)) (keyAt Q k)
 two:∀k,0<k→k<Q.length→(k-1) / 2=j→0<j→wle (keyAt Q ((j-1) / 2)) (keyAt Q k)
structure DownOk(Q:List (Cand×Tree))(j n:Nat):Prop where
 one:∀k,0<k→k<n→(k-1) / 2≠j→wle (keyAt Q ((k-1) / 2)) (keyAt Q k)
 two:∀k,0<k→k<n→(k-1) / 2=j→0<j→wle (keyAt Q ((j-1) / 2)) (keyAt Q k)
theorem keyAt_some{Q:List (Cand×Tree)}{i:Nat}{x:Cand×Tree}(h:Q[i]?=some x):keyAt Q i=x.2.pre:=by
 unfold keyAt;rw[h]
theorem keyAt_swap{Q:List (Cand×Tree)}{i j:Nat}{x y:Cand×Tree}(hi:Q[i]?=some x)(hj:Q[j]?=some y)(k:Nat):keyAt ((Q.set i y).set j x) k=if k=j then keyAt Q i else if k=i then keyAt Q j else keyAt Q k:=by
 have h1:=(gS hi).1
 have h2:=(gS hj).1
 unfold keyAt
 rw[List.getElem?_set,List.getElem?_set]
 by_cases e1:k=j
 ·subst e1
  simp[h2,hi]
 ·by_cases e2:k=i
  ·subst e2
   simp[h1,hj,e1,Ne.symm e1]
  ·simp[e1,e2,Ne.symm e1,Ne.symm e2]
theorem perm_swapQ{α:Type}{Q:List α}{i j:Nat}{x y:α}(hi:Q[i]?=some x)(hj:Q[j]?=some y):((Q.set i y).set j x).Perm Q:=by
 obtain⟨h1,rfl⟩:=gS hi
 obtain⟨h2,rfl⟩:=gS hj
 exact Go.Sort.perm_set_set Q i j h1 h2
theorem UpOk.stop{Q:List (Cand×Tree)}{j:Nat}(h:UpOk Q j)(hj:j=0∨wle (keyAt Q ((j-1) / 2)) (keyAt Q j)):HeapN Q Q.length:=fun i h1 h2=>by
 by_cases e:i=j
 ·subst e
  rcases hj with hj | hj
  ·omega
  ·exact hj
 ·exact h.one i h1 h2 e
theorem UpOk.step{Q:List (Cand×Tree)}{j:Nat}(h:UpOk Q j)(hj:0<j){x y:Cand×Tree}(hi:Q[(j-1) / 2]?=some x)(hy:Q[j]?=some y)(hlt:wlt (keyAt Q j) (keyAt Q ((j-1) / 2))):UpOk ((Q.set ((j-1) / 2) y).set j x) ((j-1) / 2):=by
 have sw:=keyAt_swap hi hy
 have hne:(j-1) / 2≠j:=by omega
 refine⟨fun k h1 h2 h3=>?_,fun k h1 h2 h3 h4=>?_⟩
 ·simp only[List.length_set] at h2
  rw[sw,sw]
  by_cases e1:k=j
  ·subst e1
   rw[if_neg hne,if_pos rfl,if_pos rfl]
   exact .inl hlt
  ·rw[if_neg e1 (c:=k=j),if_neg h3]
   by_cases e2:(k-1) / 2=j
   ·rw[if_pos e2]
    exact h.two k h1 h2 e2 hj
   ·rw[if_neg e2]
    by_cases e3:(k-1) / 2=(j-1) / 2
    ·rw[if_pos e3]
     have:=h.one k h1 h2 e1
     rw[e3] at this
     exact .inl (wlt_wle hlt this)
    ·rw[if_neg e3]
     exact h.one k h1 h2 e1
 ·simp only[List.length_set] at h2
  rw[sw,sw]
  have e0:((j-1) / 2-1) / 2≠j:=by omega
  have e1:((j-1) / 2-1) / 2≠(j-1) / 2:=by omega
  rw[if_neg e0,if_neg e1]
  have hjl:=(gS hy).1
  have hg:=h.one ((j-1) / 2) h4 zo hne
  by_cases e2:k=j
  ·rw[if_pos e2];exact hg
  ·rw[if_neg e2,if_neg zo]
   have:=h.one k h1 h2 e2
   rw[h3] at this
   exact wle_trans hg this
theorem DownOk.stop{Q:List (Cand×Tree)}{j n:Nat}(h:DownOk Q j n)(hj:∀k,0<k→k<n→(k-1) / 2=j→wle (keyAt Q j) (keyAt Q k)):HeapN Q n:=fun i h1 h2=>by
 by_cases e:(i-1) / 2=j
 ·rw[e];exact hj i h1 h2 e
 ·exact h.one i h1 h2 e
theorem DownOk.step{Q:List (Cand×Tree)}{i j n:Nat}(h:DownOk Q i n)(hn:n≤Q.length)(hj:0<j)(hjn:j<n)(hij:(j-1) / 2=i){x y:Cand×Tree}(hx:Q[i]?=some x)(hy:Q[j]?=some y)(hlt:wlt (keyAt Q j) (keyAt Q i))(hmin:∀k,0<k→k<n→(k-1) / 2=i→wle (keyAt Q j) (keyAt Q k)) :
  DownOk ((Q.set i y).set j x) j n:=by
 have sw:=keyAt_swap hx hy
 have hne:i≠j:=by omega
 refine⟨fun k h1 h2 h3=>?_,fun k h1 h2 h3 h4=>?_⟩
 ·rw[sw,sw]
  rw[if_neg h3]
  by_cases e1:k=j
  ·subst e1
   rw[if_pos hij,if_pos rfl]
   exact .inl hlt
  ·rw[if_neg e1 (c:=k=j)]
   by_cases e2:(k-1) / 2=i
   ·rw[if_pos e2,if_neg zo]
    exact hmin k h1 h2 e2
   ·rw[if_neg e2]
    by_cases e3:k=i
    ·subst e3
     rw[if_pos rfl]
     have:=h.two j hj hjn hij h1
     exact this
    ·rw[if_neg e3]
     exact h.one k h1 h2 e2
 ·rw[sw,sw,hij,if_neg zo,if_pos rfl,if_neg zo,if_neg zo]
  have:=h.one k h1 h2 zo
  rw[h3] at this
  exact this
theorem heap_first{Q:List (Cand×Tree)}(h:HeapN Q Q.length):∀i,i<Q.length→wle (keyAt Q 0) (keyAt Q i):=by
 intro i
 induction i using Nat.strongRecOn with
 | _ i ih=>
  intro hi
  by_cases e:i=0
  ·subst e;exact wle_refl _
  ·exact wle_trans (ih ((i-1) / 2) zo zo) (h i zo hi)
theorem heap_min{Q:List (Cand×Tree)}(h:HeapN Q Q.length){x y:Cand×Tree}(hx:Q[0]?=some x)(hy:y∈Q):tle x.2 y.2:=by
 obtain⟨i,hi⟩:=List.mem_iff_getElem?.1 hy
 have:=heap_first h i (gS hi).1
 rw[keyAt_some hx,keyAt_some hi] at this
 exact this
theorem keyAt_take{Q:List (Cand×Tree)}{n i:Nat}(h:i<n):keyAt (Q.take n) i=keyAt Q i:=by
 unfold keyAt
 rw[List.getElem?_take,if_pos h]
theorem keyAt_app{Q:List (Cand×Tree)}{x:Cand×Tree}{i:Nat}(h:i<Q.length):keyAt (Q++[x]) i=keyAt Q i:=by
 unfold keyAt
 rw[List.getElem?_append_left h]
theorem HeapN.push{Q:List (Cand×Tree)}(h:HeapN Q Q.length)(x:Cand×Tree):UpOk (Q++[x]) Q.length:=by
 refine⟨fun k h1 h2 h3=>?_,fun k h1 h2 h3 h4=>?_⟩
 ·simp at h2
  rw[keyAt_app zo,keyAt_app zo]
  exact h k h1 zo
 ·simp at h2;omega
theorem HeapN.pop{Q:List (Cand×Tree)}(h:HeapN Q Q.length){n:Nat}(hn:n+1=Q.length){x y:Cand×Tree}(hx:Q[0]?=some x)(hy:Q[n]?=some y):DownOk ((Q.set 0 y).set n x) 0 n:=by
 have sw:=keyAt_swap hx hy
 refine⟨fun k h1 h2 h3=>?_,fun k h1 h2 h3 h4=>by omega⟩
 rw[sw,sw,if_neg zo,if_neg h3,if_neg zo,if_neg zo]
 exact h k h1 zo
theorem HeapN.take{Q:List (Cand×Tree)}{n:Nat}(h:HeapN Q n)(hn:n≤Q.length):HeapN (Q.take n) (Q.take n).length:=fun i h1 h2=>by
 rw[List.length_take] at h2
 rw[keyAt_take zo,keyAt_take zo]
 exact h i h1 zo
def methK(C:Ctx)(t:Nat)(name:String):Option (FuncId×Bool):=match C.info t with
 | some i=>match i.methods.find? (·.name==name) with
  | some m=>bif m.path.isEmpty then m.func else none
  | none=>none
 | none=>none
theorem methodA_ptr{t e:Nat}{r:Row}{name:String}{f:FuncId}{v:Value}(hm:methK CC t name=some (f,true))(hr:rowOf rows t=some r)(hd:r.d=.pointer e)(h:Heap):methodA CC h (.iface t v) name=some (f,v):=by
 have hu:=und_pointer hT hr hd
 unfold methK at hm
 cases hi:CC.info t with
 | none=>rw[hi] at hm;cases hm
 | some i=>
  rw[hi] at hm
  simp only at hm
  unfold methodA
  simp only[hi,hu]
  cases hf:i.methods.find? (·.name==name) with
  | none=>rw[hf] at hm;cases hm
  | some m=>
   rw[hf] at hm
   simp only at hm
   cases hp:m.path.isEmpty with
   | false=>rw[hp] at hm;cases hm
   | true=>
    rw[hp] at hm
    simp only[cond_true] at hm
    simp only[hp,cond_true,hm]
theorem methodA_val{t e:Nat}{r:Row}{name:String}{f:FuncId}{v x:Value}{h:Heap}(hm:methK CC t name=some (f,false))(hr:rowOf rows t=some r)(hd:r.d=.pointer e)(hl:loadA CC h e v=some x):methodA CC h (.iface t v) name=some (f,x):=by
 have hu:=und_pointer hT hr hd
 unfold methK at hm
 cases hi:CC.info t with
 | none=>rw[hi] at hm;cases hm
 | some i=>
  rw[hi] at hm
  simp only at hm
  unfold methodA
  simp only[hi,hu]
  cases hf:i.methods.find? (·.name==name) with
  | none=>rw[hf] at hm;cases hm
  | some m=>
   rw[hf] at hm
   simp only at hm
   cases hp:m.path.isEmpty with
   | false=>rw[hp] at hm;cases hm
   | true=>
    rw[hp] at hm
    simp only[cond_true] at hm
    simp only[hp,cond_true,hm,hl]
    rfl
theorem meth_len:methK CC 159 "Len" = some (183,false):=by decide +kernel
theorem meth_less:methK CC 159 "Less" = some (184,false):=by decide +kernel
theorem meth_swap:methK CC 159 "Swap" = some (185,false):=by decide +kernel
theorem meth_push:methK CC 159 "Push" = some (188,true):=by decide +kernel
theorem meth_pop:methK CC 159 "Pop" = some (187,true):=by decide +kernel
def candV(c:Cand)(t:Value):List Value:=[.int .i64 c.node,.int .i64 c.pack,.int .i64 c.r0,.int .i64 c.r1,.int .i64 c.r2,.int .i64 c.r3,t]
def tCQ:Ty (Cand×Tree) where
 size:=7
 rel:=fun F l x=>∃p,l=candV x.1 (.pointer (some ⟨p,0,none⟩))∧Sh F p x.2∧x.2.pre.length≤100000
 len:=fun _ _ _ h=>by obtain⟨p,rfl,_⟩:=h;rfl
 one:=fun _ _ _ h=>by obtain⟨p,rfl,_⟩:=h;rfl
 mono:=fun _ _ _ _ hF h=>by obtain⟨p,e,h,hb⟩:=h;exact⟨p,e,h.mono hF,hb⟩
structure LB where
 li:Nat
 x0:Value
 x1:Value
 x2:Value
 x3:Value
 x4:Value
 x5:Value
 ok:one x0=true∧one x1=true∧one x2=true∧one x3=true∧one x4=true∧one x5=true
def lCells(L:LB)(a:Option Addr)(n c:Nat):List Value:=[L.x0,L.x1,L.x2,L.x3,L.x4,L.x5,.slice a n c]
def lB(L:LB)(a:Option Addr)(n c:Nat)(B:List (Nat×Blk)):List (Nat×Blk):=(L.li,.cells false (lCells L a n c))::B
def qPtr(L:LB):Value:=.pointer (some ⟨L.li,6,none⟩)
def qI(L:LB):Value:=.iface 159 (qPtr L)
theorem qlen_spec(F:Frz)(a:Option Addr)(n c:Nat):Abs.Spec CC 183 [.slice a n c] F [] fun _ v o=>o=[]∧v=.int .i64 (n:Nat):=by
 refine Abs.Spec.fn (n:=5) Tryz.func183 rfl rfl fun own=>?_
 refine zB4 ?_
 exact AW.ret ⟨_,[],⟨_,_,rfl,rfl,rfl⟩,zsb,rfl,rfl⟩
theorem qless_spec(G:Frz){a:Option Addr}{n c:Nat}{Q:List (Cand×Tree)}(hq:Arr tCQ G a n c Q){i k:Nat}{x y:Cand×Tree}(hi:Q[i]?=some x)(hk:Q[k]?=some y) :
  Abs.Spec CC 184 [.slice a n c,.int .i64 (i:Nat),.int .i64 (k:Nat)] G [] fun _ v o=>o=[]∧∃b,v=.bool b∧(b=true↔tlt x.2 y.2):=by
 have hql:=hq.len
 have hi1:=(gS hi).1
 have hk1:=(gS hk).1
 refine Abs.Spec.fn (n:=19) Tryz.func184 rfl rfl fun own=>?_
 refine zB4 ?_
 refine WT.idxL hT hq Z Z Z Z Z Z Z Z Z zo (fun z hz b7 off7 ro7 cs7 lx7 hb7 hp7 hrel7=>?_)
 rw[hi] at hz;cases hz
 obtain⟨p,rfl,hsh,hbd⟩:=hrel7
 unfold candV at hp7
 refine zB4 ?_
 refine WT.idxL hT hq Z Z Z Z Z Z Z Z Z zo (fun z hz b8 off8 ro8 cs8 lx8 hb8 hp8 hrel8=>?_)
 rw[hk] at hz;cases hz
 obtain⟨q,rfl,hsh2,hbd2⟩:=hrel8
 unfold candV at hp8
 clear hp7 hb7
 refine zB4 ?_
 refine WT.callV Tryz.func186 Z Z Z Z Z Z (tcompare_spec _ hsh hsh2 hbd hbd2) (fun v hv=>?_)
 obtain⟨z,rfl,hz⟩:=hv
 refine zB4 ?_
 exact AW.ret ⟨_,[],⟨_,_,rfl,rfl,rfl⟩,zsb,rfl,_,rfl,by simpa using hz⟩
theorem lB_own(L:LB)(a:Option Addr)(n c:Nat)(B:List (Nat×Blk))(own:Own):OwnLe ([(L.li,.cells false (lCells L a n c))]::B::own) (lB L a n c B::own):=OwnLe.flat (List.Perm.of_eq (by simp[lB]))
theorem lB_own'(L:LB)(a:Option Addr)(n c:Nat)(B:List (Nat×Blk))(own:Own):OwnLe (lB L a n c B::own) ([(L.li,.cells false (lCells L a n c))]::B::own):=OwnLe.flat (List.Perm.of_eq (by simp[lB]))
theorem qswap_spec(F:Frz)(L:LB){a:Option Addr}{n c:Nat}{B:List (Nat×Blk)}{Q:List (Cand×Tree)}(hq:GB tCQ F a n c B Q){i k:Nat}{x y:Cand×Tree}(hi:Q[i]?=some x)(hk:Q[k]?=some y) :
  Abs.Spec CC 185 [.slice a n c,.int .i64 (i:Nat),.int .i64 (k:Nat)] F [lB L a n c B] fun F' v o=>∃B',o=[B']∧∃B2,B'=lB L a n c B2∧GB tCQ F' a n c B2 ((Q.set i y).set k x):=by
 have hql:=hq.len
 have hi1:=(gS hi).1
 have hk1:=(gS hk).1
 refine Abs.Spec.fn (n:=20) Tryz.func185 rfl rfl fun own=>?_
 refine AW.le (lB_own _ _ _ _ _ _) ?_
 refine zB4 ?_
 refine WT.gidx hT hq Z Z Z Z Z Z Z Z Z zo (fun b1 hb1=>?_)
 refine WT.gldS hT 1 hq hb1 hk Z Z Z Z Z Z (fun z hz=>hz) Z Z Z (fun l hl=>?_)
 refine zB4 ?_
 refine WT.gidx hT hq Z Z Z Z Z Z Z Z Z zo (fun b2 hb2=>?_)
 refine WT.gldS hT 1 hq hb2 hi Z Z Z Z Z Z (fun z hz=>hz) Z Z Z (fun l2 hl2=>?_)
 skip
 refine WT.gidx hT hq Z Z Z Z Z Z Z Z Z zo (fun b3 hb3=>?_)
 refine WT.gst (y:=y) hT 1 hq hb3 hi Z Z Z Z Z hl Z (fun _=>rfl) Z (fun B6 hB6=>?_)
 skip
 obtain⟨z,hz⟩:∃z,(Q.set i y)[k]?=some z:=⟨_,gE (by simp;omega)⟩
 refine WT.gidx hT hB6 Z Z Z Z Z Z Z Z Z zo (fun b4 hb4=>?_)
 refine WT.gst (y:=x) hT 1 hB6 hb4 hz Z Z Z Z Z hl2 Z (fun _=>rfl) Z (fun B7 hB7=>?_)
 refine WT.le (lB_own' _ _ _ _ _ _) ?_
 refine zB4 ?_
 exact⟨_,[_],rfl,zsb,_,rfl,B7,rfl,hB7⟩
theorem qpop_spec(F:Frz)(L:LB){a:Option Addr}{n c:Nat}{B:List (Nat×Blk)}{Q:List (Cand×Tree)}(hq:GB tCQ F a (n+1) c B Q)(hn:n≤1000000000000){x:Cand×Tree}(hx:Q[n]?=some x) :
  Abs.Spec CC 187 [qPtr L] F [lB L a (n+1) c B] fun F' v o=>∃B',o=[B']∧B'=lB L a n c B∧∃l,v=.iface 156 (.agg ⟨l⟩)∧tCQ.rel F' l x:=by
 have hql:=hq.len
 unfold lB lCells qPtr
 refine Abs.Spec.fn (n:=23) Tryz.func187 rfl rfl fun own=>?_
 refine AW.le (lB_own L a (n+1) c B own) ?_
 unfold lCells
 refine zC4 ?_
 refine WT.know (v':=.int .i64 (n:Nat)) 11 Z (by simp) ?_
 refine WT.gidx hT hq Z Z Z Z Z Z Z Z Z zo (fun b1 hb1=>?_)
 refine WT.gldS hT 1 hq hb1 hx Z Z Z Z Z Z (fun z hz=>hz) Z Z Z (fun l hl=>?_)
 obtain⟨p,rfl,hsh,hbd⟩:=hl
 unfold candV
 skip
 refine WT.allocT hT Z Z Z Z Z Z (fun i4 hi4=>?_)
 refine zC4 ?_
 refine WT.know (v':=.int .i64 (n:Nat)) 18 Z (by simp) ?_
 refine WT.sliceG hT hq Z Z Z Z Z Z Z Z Z (show n≤n+1 by omega) ?_
 refine zB4 ?_
 refine WT.ifaceT hT Z Z Z Z Z Z ?_
 refine zB4 ?_
 refine AW.le (OwnLe.skip _ (lB_own' L a n c B own)) ?_
 exact AW.ret ⟨_,[_],⟨_,_,rfl,rfl,rfl⟩,zsb,_,rfl,rfl,_,rfl,p,rfl,hsh,hbd⟩
theorem qpush_spec(F:Frz)(L:LB){a:Option Addr}{n c:Nat}{B:List (Nat×Blk)}{Q:List (Cand×Tree)}(hq:GB tCQ F a n c B Q)(hn:n≤1000000000000){x:Cand×Tree}{l:List Value}(hx:tCQ.rel F l x) :
  Abs.Spec CC 188 [qPtr L,.iface 156 (.agg ⟨l⟩)] F [lB L a n c B] fun F' v o=>∃B',o=[B']∧∃a' c' B2,B'=lB L a' (n+1) c' B2∧GB tCQ F' a' (n+1) c' B2 (Q++[x]):=by
 have hql:=hq.len
 have hx0:=hx
 obtain⟨p,rfl,hsh,hbd⟩:=hx
 unfold lB lCells qPtr
 refine Abs.Spec.fn (n:=13) Tryz.func188 rfl rfl fun own=>?_
 refine AW.le (lB_own L a n c B own) ?_
 unfold lCells
 refine AW.draw (ps:=[(3,6)]) Z Z ?_
 refine zB4 ?_
 refine WT.assertT hT Z Z Z Z Z Z ?_
 unfold candV
 skip
 refine WT.buildT hT Z Z Z Z Z Z Z Z Z Z Z Z Z Z (fun i9 hi9=>?_)
 refine WT.appendG (ys:=[x]) hT 2 hq Z (fun _=>rfl) Z Z Z Z Z Z Z Z Z Z Z (fun h0 s0=>news_own hT s0 0 Z Z Z Z) (Cells.single (R:=tCQ) (x:=x) hx0) Z (by decide) zom (fun a3 c3 B3 hB3=>?_)
 refine ze hT Z Z Z Z Z ?_
 refine zs hT 1 0 Z Z Z Z Z Z Z Z Z Z Z Z ?_
 refine WT.le (OwnLe.skip _ (lB_own' L a3 (n+1) c3 B3 own)) ?_
 refine zB4 ?_
 refine⟨zrC,?_⟩
 exact⟨_,[_],rfl,zsb,_,rfl,a3,c3,B3,rfl,hB3.gb⟩
structure UpS where
 j:Nat
 B:List (Nat×Blk)
 Q:List (Cand×Tree)
theorem lessP{L:LB}{F:Frz}{a:Option Addr}{n c:Nat}{B:List (Nat×Blk)}{Q:List (Cand×Tree)}(hq:GB tCQ F a n c B Q){i k:Nat}{x y:Cand×Tree}(hi:Q[i]?=some x)(hk:Q[k]?=some y)(G:Frz)(hG:Frz.le F G)(hB:∀i b,(i,b)∈lB L a n c B→G i=some b) :
  Abs.Spec CC 184 [.slice a n c,.int .i64 (i:Nat),.int .i64 (k:Nat)] G [] fun _ v o=>o=[]∧∃b,v=.bool b∧(b=true↔tlt x.2 y.2):=
 qless_spec G (hq.arr hG fun i b hm=>hB i b (List.mem_cons_of_mem _ hm)) hi hk
theorem hup_spec(F:Frz)(L:LB){a:Option Addr}{n c:Nat}{B:List (Nat×Blk)}{Q:List (Cand×Tree)}(hq:GB tCQ F a n c B Q)(hn:n≤1000000000000){j:Nat}(hj:j<n)(hu:UpOk Q j) :
  Abs.Spec CC 133 [qI L,.int .i64 (j:Nat)] F [lB L a n c B] fun F' v o=>∃B',o=[B']∧∃B2 Q2,B'=lB L a n c B2∧GB tCQ F' a n c B2 Q2∧Q2.Perm Q∧HeapN Q2 Q2.length:=by
 have hql:=hq.len
 unfold qI qPtr
 refine Abs.Spec.fn (n:=23) Tryz.func133 rfl rfl fun own=>?_
 refine AW.block ?_
 refine AW.loopR (S:=UpS) (fun s=>[(1,.int .i64 (s.j:Nat))]) (fun s=>lB L a n c s.B::own) (fun s G=>GB tCQ G a n c s.B s.Q∧s.Q.Perm Q∧s.j<n∧UpOk s.Q s.j) (fun s=>s.j) ⟨j,B,Q⟩
  sM oR ⟨hq,List.Perm.refl _,hj,hu⟩ ?_
 intro s F1 hF1 hP
 obtain⟨hb,hperm,hj1,hu1⟩:=hP
 have hbl:=hb.len
 rcases Nat.eq_zero_or_pos s.j with h0 | h0
 ·rw[h0] at hu1 ⊢
  skip
  refine AW.block ?_
  refine zB4 ?_
  refine WT.quoT (x:=-1) (y:=2) Z Z Z Z Z Z (by decide) ?_
  refine zB4 ?_
  refine AW.cond Z (fun _=>?_) (fun h=>(by cases h))
  refine AW.exit ?_
  skip
  exact⟨_,[_],rfl,zsb,_,rfl,s.B,s.Q,rfl,hb,hperm,hu1.stop (.inl rfl)⟩
 ·obtain⟨x,hx⟩:∃x,s.Q[(s.j-1) / 2]?=some x:=⟨_,gE zo⟩
  obtain⟨y,hy⟩:∃y,s.Q[s.j]?=some y:=⟨_,gE zo⟩
  skip
  refine AW.block ?_
  refine zC4 ?_
  refine WT.quoL 2 Z Z Z Z Z Z (by decide) zo ?_
  refine zC4 ?_
  refine WT.know (v':=.bool false) 11 Z (by congr 1;simp;omega) ?_
  refine zC4 ?_
  refine WT.invokeLend 0 Tryz.func184 Z Z Z Z Z Z Z (fun h s0=>methodA_val meth_less Z Z (loadA_cells (s0.has (p:=0) Z me) (readT_ok hT rfl))) Z (fun G hG hBG=>lessP hb hy hx G hG hBG) (fun v hv=>?_)
  obtain⟨b,rfl,hlt⟩:=hv
  refine zC4 ?_
  refine AW.cond Z (fun hc=>?_) (fun hc=>?_)
  ·have hb0:¬tlt y.2 x.2:=fun h=>by rw[hlt.2 h] at hc;cases hc
   refine AW.exit ?_
   skip
   refine⟨_,[_],rfl,zsb,_,rfl,s.B,s.Q,rfl,hb,hperm,hu1.stop (.inr ?_)⟩
   rw[keyAt_some hx,keyAt_some hy]
   exact(wle_total _ _).resolve_right hb0
  ·have hb0:tlt y.2 x.2:=hlt.1 (by simpa using hc)
   refine zC4 ?_
   refine WT.invoke1F 0 Tryz.func185 Z Z Z Z Z Z Z (fun h s0=>methodA_val meth_swap Z Z (loadA_cells (s0.has (p:=0) Z me) (readT_ok hT rfl))) Z (fun _=>rfl) (qswap_spec F1 L hb hx hy) (fun F2 v B2 hF2 hv=>?_)
   obtain⟨B3,rfl,hB3⟩:=hv
   refine zC4 ?_
   refine⟨⟨(s.j-1) / 2,B3,(s.Q.set ((s.j-1) / 2) y).set s.j x⟩,by show (s.j-1) / 2<s.j;omega,sM,zow,hB3,(perm_swapQ hx hy).trans hperm,by show (s.j-1) / 2<n;omega,hu1.step h0 hx hy (by rw[keyAt_some hx,keyAt_some hy];exact hb0)⟩
theorem hdown_spec(F:Frz)(L:LB){a:Option Addr}{n c m:Nat}{B:List (Nat×Blk)}{Q:List (Cand×Tree)}(hq:GB tCQ F a n c B Q)(hn:n≤1000000000000)(hm:m≤n)(hu:DownOk Q 0 m) :
  Abs.Spec CC 103 [qI L,.int .i64 0,.int .i64 (m:Nat)] F [lB L a n c B] fun F' v o=>∃B',o=[B']∧∃B2 Q2,B'=lB L a n c B2∧GB tCQ F' a n c B2 Q2∧Q2.Perm Q∧HeapN Q2 m∧∀i,m≤i→Q2[i]?=Q[i]?:=by
 have hql:=hq.len
 unfold qI qPtr
 refine Abs.Spec.fn (n:=48) Tryz.func103 rfl rfl fun own=>?_
 refine zB4 ?_
 refine AW.block ?_
 refine AW.loopR (S:=UpS) (fun s=>[(7,.int .i64 (s.j:Nat))]) (fun s=>lB L a n c s.B::own) (fun s G=>GB tCQ G a n c s.B s.Q∧s.Q.Perm Q∧(s.j<m∨s.j=0)∧DownOk s.Q s.j m∧∀i,m≤i→s.Q[i]?=Q[i]?) (fun s=>m-s.j) ⟨0,B,Q⟩
  sM oR ⟨hq,List.Perm.refl _,.inr rfl,hu,fun _ _=>rfl⟩ ?_
 intro s F1 hF1 hP
 obtain⟨hb,hperm,hj1,hu1,hsame⟩:=hP
 have hbl:=hb.len
 skip
 refine AW.block ?_
 refine zC4 ?_
 refine WT.split 18 Z (fun hc=>?_) (fun hc=>?_)
 ·have hc:m≤2*s.j+1:=by simp at hc;omega
  refine zC4 ?_
  refine AW.cond Z (fun _=>?_) (fun h=>(by cases h))
  refine AW.exit ?_
  refine zC4 ?_
  refine AW.ret ⟨_,[_],⟨_,_,rfl,rfl,rfl⟩,zsb,_,rfl,s.B,s.Q,rfl,hb,hperm,hu1.stop (fun k h1 h2 h3=>by omega),hsame⟩
 have hc:2*s.j+1<m:=by simp at hc;omega
 have hcl:2*s.j+1<s.Q.length:=by omega
 obtain⟨x,hx⟩:∃x,s.Q[s.j]?=some x:=⟨_,gE zo⟩
 obtain⟨y1,hy1⟩:∃y,s.Q[2*s.j+1]?=some y:=⟨_,gE zo⟩
 refine zC4 ?_
 refine AW.cond Z (fun h=>?_) (fun _=>?_)
 ·exfalso;simp at h;omega
 refine zC4 ?_
 refine WT.split 28 Z (fun hr=>?_) (fun hr=>?_)
 ·have hr:2*s.j+2<m:=by simp at hr;omega
  obtain⟨y2,hy2⟩:∃y,s.Q[2*s.j+1+1]?=some y:=⟨_,gE zo⟩
  refine zC4 ?_
  refine WT.invokeLend 0 Tryz.func184 Z Z Z Z Z Z Z (fun h s0=>methodA_val meth_less Z Z (loadA_cells (s0.has (p:=0) Z me) (readT_ok hT rfl))) Z (fun G hG hBG=>lessP hb hy2 hy1 G hG hBG) (fun v hv=>?_)
  obtain⟨b,rfl,hlt⟩:=hv
  refine zC4 ?_
  refine AW.cond Z (fun hd=>?_) (fun hd=>?_)
  ·have hlt:=hlt.1 hd
   have hmin:∀k,0<k→k<m→(k-1) / 2=s.j→wle (keyAt s.Q (2*s.j+1+1)) (keyAt s.Q k):=fun k h1 h2 h3=>by
    have:k=2*s.j+1∨k=2*s.j+1+1:=by omega
    rcases this with rfl | rfl
    ·rw[keyAt_some hy2,keyAt_some hy1];exact .inl hlt
    ·exact wle_refl _
   refine zC4 ?_
   refine WT.invokeLend 0 Tryz.func184 Z Z Z Z Z Z Z (fun h s0=>methodA_val meth_less Z Z (loadA_cells (s0.has (p:=0) Z me) (readT_ok hT rfl))) Z (fun G hG hBG=>lessP hb hy2 hx G hG hBG) (fun v hv=>?_)
   obtain⟨b2,rfl,hlt2⟩:=hv
   refine zC4 ?_
   refine AW.cond Z (fun hd=>?_) (fun hd=>?_)
   ·have hb0:¬tlt y2.2 x.2:=fun h=>by rw[hlt2.2 h] at hd;cases hd
    refine AW.exit ?_
    refine zC4 ?_
    refine AW.ret ⟨_,[_],⟨_,_,rfl,rfl,rfl⟩,zsb,_,rfl,s.B,s.Q,rfl,hb,hperm,hu1.stop (fun k h1 h2 h3=>?_),hsame⟩
    refine wle_trans ?_ (hmin k h1 h2 h3)
    rw[keyAt_some hx,keyAt_some hy2]
    exact(wle_total _ _).resolve_right hb0
   ·have hb0:tlt y2.2 x.2:=hlt2.1 (by simpa using hd)
    refine zC4 ?_
    refine WT.invoke1F 0 Tryz.func185 Z Z Z Z Z Z Z (fun h s0=>methodA_val meth_swap Z Z (loadA_cells (s0.has (p:=0) Z me) (readT_ok hT rfl))) Z (fun _=>rfl) (qswap_spec F1 L hb hx hy2) (fun F2 v B2 hF2 hv=>?_)
    obtain⟨B3,rfl,hB3⟩:=hv
    refine zC4 ?_
    refine⟨⟨2*s.j+1+1,B3,(s.Q.set s.j y2).set (2*s.j+1+1) x⟩,by show m-(2*s.j+1+1)<m-s.j;omega,sM,zow,hB3,(perm_swapQ hx hy2).trans hperm,.inl (by show 2*s.j+1+1<m;omega),hu1.step zo zo zo zo hx hy2 (by rw[keyAt_some hx,keyAt_some hy2];exact hb0) hmin,fun i hi=>?_⟩
    show ((s.Q.set s.j y2).set (2*s.j+1+1) x)[i]?=Q[i]?
    rw[List.getElem?_set_ne zo,List.getElem?_set_ne zo]
    exact hsame i hi
  ·have hlt:¬tlt y2.2 y1.2:=fun h=>by rw[hlt.2 h] at hd;cases hd
   have hmin:∀k,0<k→k<m→(k-1) / 2=s.j→wle (keyAt s.Q (2*s.j+1)) (keyAt s.Q k):=fun k h1 h2 h3=>by
    have:k=2*s.j+1∨k=2*s.j+1+1:=by omega
    rcases this with rfl | rfl
    ·exact wle_refl _
    ·rw[keyAt_some hy2,keyAt_some hy1];exact(wle_total _ _).resolve_right hlt
   refine zC4 ?_
   refine WT.invokeLend 0 Tryz.func184 Z Z Z Z Z Z Z (fun h s0=>methodA_val meth_less Z Z (loadA_cells (s0.has (p:=0) Z me) (readT_ok hT rfl))) Z (fun G hG hBG=>lessP hb hy1 hx G hG hBG) (fun v hv=>?_)
   obtain⟨b2,rfl,hlt2⟩:=hv
   refine zC4 ?_
   refine AW.cond Z (fun hd=>?_) (fun hd=>?_)
   ·have hb0:¬tlt y1.2 x.2:=fun h=>by rw[hlt2.2 h] at hd;cases hd
    refine AW.exit ?_
    refine zC4 ?_
    refine AW.ret ⟨_,[_],⟨_,_,rfl,rfl,rfl⟩,zsb,_,rfl,s.B,s.Q,rfl,hb,hperm,hu1.stop (fun k h1 h2 h3=>?_),hsame⟩
    refine wle_trans ?_ (hmin k h1 h2 h3)
    rw[keyAt_some hx,keyAt_some hy1]
    exact(wle_total _ _).resolve_right hb0
   ·have hb0:tlt y1.2 x.2:=hlt2.1 (by simpa using hd)
    refine zC4 ?_
    refine WT.invoke1F 0 Tryz.func185 Z Z Z Z Z Z Z (fun h s0=>methodA_val meth_swap Z Z (loadA_cells (s0.has (p:=0) Z me) (readT_ok hT rfl))) Z (fun _=>rfl) (qswap_spec F1 L hb hx hy1) (fun F2 v B2 hF2 hv=>?_)
    obtain⟨B3,rfl,hB3⟩:=hv
    refine zC4 ?_
    refine⟨⟨2*s.j+1,B3,(s.Q.set s.j y1).set (2*s.j+1) x⟩,by show m-(2*s.j+1)<m-s.j;omega,sM,zow,hB3,(perm_swapQ hx hy1).trans hperm,.inl (by show 2*s.j+1<m;omega),hu1.step zo zo zo zo hx hy1 (by rw[keyAt_some hx,keyAt_some hy1];exact hb0) hmin,fun i hi=>?_⟩
    show ((s.Q.set s.j y1).set (2*s.j+1) x)[i]?=Q[i]?
    rw[List.getElem?_set_ne zo,List.getElem?_set_ne zo]
    exact hsame i hi
 ·have hr:m≤2*s.j+2:=by simp at hr;omega
  have hmin:∀k,0<k→k<m→(k-1) / 2=s.j→wle (keyAt s.Q (2*s.j+1)) (keyAt s.Q k):=fun k h1 h2 h3=>by
   obtain rfl:k=2*s.j+1:=by omega
   exact wle_refl _
  refine zC4 ?_
  refine AW.cond Z (fun h=>(by cases h)) (fun _=>?_)
  refine zC4 ?_
  refine WT.invokeLend 0 Tryz.func184 Z Z Z Z Z Z Z (fun h s0=>methodA_val meth_less Z Z (loadA_cells (s0.has (p:=0) Z me) (readT_ok hT rfl))) Z (fun G hG hBG=>lessP hb hy1 hx G hG hBG) (fun v hv=>?_)
  obtain⟨b2,rfl,hlt2⟩:=hv
  refine zC4 ?_
  refine AW.cond Z (fun hd=>?_) (fun hd=>?_)
  ·have hb0:¬tlt y1.2 x.2:=fun h=>by rw[hlt2.2 h] at hd;cases hd
   refine AW.exit ?_
   refine zC4 ?_
   refine AW.ret ⟨_,[_],⟨_,_,rfl,rfl,rfl⟩,zsb,_,rfl,s.B,s.Q,rfl,hb,hperm,hu1.stop (fun k h1 h2 h3=>?_),hsame⟩
   refine wle_trans ?_ (hmin k h1 h2 h3)
   rw[keyAt_some hx,keyAt_some hy1]
   exact(wle_total _ _).resolve_right hb0
  ·have hb0:tlt y1.2 x.2:=hlt2.1 (by simpa using hd)
   refine zC4 ?_
   refine WT.invoke1F 0 Tryz.func185 Z Z Z Z Z Z Z (fun h s0=>methodA_val meth_swap Z Z (loadA_cells (s0.has (p:=0) Z me) (readT_ok hT rfl))) Z (fun _=>rfl) (qswap_spec F1 L hb hx hy1) (fun F2 v B2 hF2 hv=>?_)
   obtain⟨B3,rfl,hB3⟩:=hv
   refine zC4 ?_
   refine⟨⟨2*s.j+1,B3,(s.Q.set s.j y1).set (2*s.j+1) x⟩,by show m-(2*s.j+1)<m-s.j;omega,sM,zow,hB3,(perm_swapQ hx hy1).trans hperm,.inl (by show 2*s.j+1<m;omega),hu1.step zo zo zo zo hx hy1 (by rw[keyAt_some hx,keyAt_some hy1];exact hb0) hmin,fun i hi=>?_⟩
   show ((s.Q.set s.j y1).set (2*s.j+1) x)[i]?=Q[i]?
   rw[List.getElem?_set_ne zo,List.getElem?_set_ne zo]
   exact hsame i hi
theorem hpush_spec(F:Frz)(L:LB){a:Option Addr}{n c:Nat}{B:List (Nat×Blk)}{Q:List (Cand×Tree)}(hq:GB tCQ F a n c B Q)(hn:n≤900000000000)(hh:HeapN Q Q.length){x:Cand×Tree}{l:List Value}(hx:tCQ.rel F l x) :
  Abs.Spec CC 122 [qI L,.iface 156 (.agg ⟨l⟩)] F [lB L a n c B] fun F' v o=>∃B',o=[B']∧∃a' c' B2 Q2,B'=lB L a' (n+1) c' B2∧GB tCQ F' a' (n+1) c' B2 Q2∧Q2.Perm (Q++[x])∧HeapN Q2 Q2.length:=by
 have hql:=hq.len
 unfold qI qPtr
 refine Abs.Spec.fn (n:=12) Tryz.func122 rfl rfl fun own=>?_
 refine zB4 ?_
 refine WT.invoke1F 0 Tryz.func188 Z Z Z Z Z Z Z (fun h s0=>methodA_ptr meth_push Z Z h) Z (fun _=>rfl) (qpush_spec F L hq zo hx) (fun F2 v B2 hF2 hv=>?_)
 obtain⟨a',c',B3,rfl,hB3⟩:=hv
 refine zB4 ?_
 refine WT.invokeLend (P:=fun v=>v=.int .i64 ((n+1:Nat):Int)) 0 Tryz.func183 Z Z Z Z Z Z Z (fun h s0=>methodA_val meth_len Z Z (loadA_cells (s0.has (p:=0) Z me) (readT_ok hT rfl))) Z (fun G hG hBG=>qlen_spec G a' (n+1) c') (fun v hv=>?_)
 subst hv
 refine zB4 ?_
 refine WT.know (v':=.int .i64 (n:Nat)) 10 Z (by congr 1;omega) ?_
 refine WT.call1F 0 Tryz.func133 Z Z Z Z Z Z Z (fun _=>rfl) (hup_spec F2 L hB3 zo (j:=n) zo (by rw[hql];exact hh.push x)) (fun F3 v B4 hF3 hv=>?_)
 obtain⟨B5,Q2,rfl,hB5,hp,hh2⟩:=hv
 refine zB4 ?_
 exact⟨_,[_],rfl,zsb,_,rfl,a',c',B5,Q2,rfl,hB5,hp,hh2⟩
theorem hpop_spec(F:Frz)(L:LB){a:Option Addr}{n c:Nat}{B:List (Nat×Blk)}{Q:List (Cand×Tree)}(hq:GB tCQ F a (n+1) c B Q)(hn:n≤900000000000)(hh:HeapN Q Q.length) :
  Abs.Spec CC 72 [qI L] F [lB L a (n+1) c B] fun F' v o=>∃B',o=[B']∧∃B2 Q2 x l,B'=lB L a n c B2∧GB tCQ F' a n c B2 Q2∧Q.Perm (x::Q2)∧HeapN Q2 Q2.length∧(∀y∈Q2,tle x.2 y.2)∧v=.iface 156 (.agg ⟨l⟩)∧tCQ.rel F' l x:=by
 have hql:=hq.len
 obtain⟨x,hx⟩:∃x,Q[0]?=some x:=⟨_,gE zo⟩
 obtain⟨y,hy⟩:∃y,Q[n]?=some y:=⟨_,gE zo⟩
 unfold qI qPtr
 refine Abs.Spec.fn (n:=15) Tryz.func72 rfl rfl fun own=>?_
 refine zB4 ?_
 refine WT.invokeLend (P:=fun v=>v=.int .i64 ((n+1:Nat):Int)) 0 Tryz.func183 Z Z Z Z Z Z Z (fun h s0=>methodA_val meth_len Z Z (loadA_cells (s0.has (p:=0) Z me) (readT_ok hT rfl))) Z (fun G hG hBG=>qlen_spec G a (n+1) c) (fun v hv=>?_)
 subst hv
 refine zB4 ?_
 refine WT.know (v':=.int .i64 (n:Nat)) 8 Z (by congr 1;omega) ?_
 refine WT.invoke1F 0 Tryz.func185 Z Z Z Z Z Z Z (fun h s0=>methodA_val meth_swap Z Z (loadA_cells (s0.has (p:=0) Z me) (readT_ok hT rfl))) Z (fun _=>rfl) (qswap_spec F L hq hx hy) (fun F2 v B2 hF2 hv=>?_)
 obtain⟨B3,rfl,hB3⟩:=hv
 refine zB4 ?_
 refine WT.know (v':=.int .i64 (n:Nat)) 11 Z (by congr 1;omega) ?_
 refine WT.call1F 0 Tryz.func103 Z Z Z Z Z Z Z (fun _=>rfl) (hdown_spec F2 L hB3 zo (m:=n) zo (hh.pop hql hx hy)) (fun F3 v B4 hF3 hv=>?_)
 obtain⟨B5,Q2,rfl,hB5,hp,hh2,hsame⟩:=hv
 have hQ2l:=hB5.len
 have hlast:Q2[n]?=some x:=by
  rw[hsame n (Nat.le_refl _),List.getElem?_set_self (by simp;omega)]
 refine zB4 ?_
 refine WT.invoke1F 0 Tryz.func187 Z Z Z Z Z Z Z (fun h s0=>methodA_ptr meth_pop Z Z h) Z (fun _=>rfl) (qpop_spec F3 L hB5 zo hlast) (fun F4 v B6 hF4 hv=>?_)
 obtain⟨rfl,l,rfl,hl⟩:=hv
 refine zB4 ?_
 have hperm:Q.Perm (x::Q2.take n):=by
  have e:Q2=Q2.take n++[x]:=by
   have:=List.take_append_drop n Q2
   rw[List.drop_eq_getElem_cons zo] at this
   have h2:=(gS hlast).2
   rw[h2,List.drop_of_length_le zo] at this
   exact this.symm
  have p1:=(hp.trans (perm_swapQ hx hy)).symm
  rw[e] at p1
  exact p1.trans (List.perm_append_comm (l₁:=Q2.take n) (l₂:=[x]))
 refine AW.ret ⟨_,[_],⟨_,_,rfl,rfl,rfl⟩,zsb,_,rfl,B5,Q2.take n,x,l,rfl,(hB5.mono hF4).take (Nat.le_succ n),hperm,hh2.take zo,fun z hz=>?_,rfl,hl⟩
 exact heap_min hh hx (hperm.mem_iff.2 (List.mem_cons_of_mem _ hz))
end Go.Proofs.D
set_option linter.unusedVariables false
set_option maxRecDepth 20000
set_option maxHeartbeats 0
open Go Go.Abs Go.Proofs Go.Proofs.D
namespace Go.Abs
def eqElemsT(T:RT)(eq:Value→Value→Option Bool)(e s:Nat)(xs ys:List Value):List Nat→Option Bool
 | []=>some true
 | i::is=>match readT T xs e (i*s),readT T ys e (i*s) with
  | some a,some b=>match eq a b,eqElemsT T eq e s xs ys is with
   | some p,some q=>some (p&&q)
   | _,_=>none
  | _,_=>none
def eqT2(C:Ctx)(T:RT):Nat→TypeId→Value→Value→Option Bool
 | 0,_,_,_=>none
 | n+1,t,x,y=>
  match rowOf T t with
  | some r=>match r.d,x,y with
   | .struct fs,.agg ⟨xs⟩,.agg ⟨ys⟩=>bif C.flat t then eqFieldsT T (eqT2 C T n) fs xs ys else none
   | .array len e,.agg ⟨xs⟩,.agg ⟨ys⟩=>match sizeT T e with
    | some s=>eqElemsT T (eqT2 C T n e) e s xs ys (List.range len)
    | none=>none
   | .int _,.int k a,.int k' b=>if k=k' then some (a==b) else none
   | .pointer _,.pointer none,.pointer none=>some true
   | _,_,_=>none
  | none=>none
def keyElemsT(T:RT)(ok:Value→Bool)(e s:Nat)(xs:List Value):List Nat→Bool
 | []=>true
 | i::is=>(match readT T xs e (i*s) with
  | some a=>ok a
  | none=>false)&&keyElemsT T ok e s xs is
def keyT2(T:RT):Nat→TypeId→Value→Bool
 | 0,_,_=>false
 | n+1,t,v=>
  match rowOf T t with
  | some r=>match r.d,v with
   | .struct fs,.agg ⟨cs⟩=>keyFieldsT T (keyT2 T n) fs cs
   | .array len e,.agg ⟨xs⟩=>match sizeT T e with
    | some s=>keyElemsT T (keyT2 T n e) e s xs (List.range len)
    | none=>false
   | .int _,v=>!isTomb v
   | .pointer _,v=>!isTomb v
   | _,_=>false
  | none=>false
section
variable {C:Ctx}{T:RT}(hT:rowsOk C T=true)
include hT
theorem eqElemsT_ok{eqt eqa:Value→Value→Option Bool}(he:∀x y b,eqt x y=some b→eqa x y=some b)(e s:Nat)(xs ys:List Value):∀(is:List Nat) (b:Bool),eqElemsT T eqt e s xs ys is=some b→eqElems C eqa e s xs ys is=some b
 | [],b,q=>q
 | i::is,b,q=>by
  simp only[eqElemsT] at q
  split at q
  ·rename_i u v hu hv
   split at q
   ·rename_i p r hp hr
    cases q
    unfold eqElems
    rw[readT_ok hT hu,readT_ok hT hv]
    simp only[he _ _ _ hp]
    cases p with
    | true=>simpa using eqElemsT_ok he e s xs ys is r hr
    | false=>rfl
   ·cases q
  ·cases q
theorem eqT2_ok:∀(n:Nat) (t:TypeId) (x y:Value) (b:Bool),eqT2 C T n t x y=some b→eqA C n t x y=some b
 | 0,_,_,_,_,q=>by cases q
 | n+1,t,x,y,b,q=>by
  unfold eqT2 at q
  split at q
  ·rename_i r hr
   split at q
   ·rename_i fs xs ys hd
    obtain⟨fs',hu,hfs⟩:=und_struct hT hr hd
    cases hf:C.flat t with
    | false=>rw[hf] at q;cases q
    | true=>
     rw[hf] at q
     simp only[cond_true] at q
     unfold eqA
     simp only[hu,hf,cond_true]
     rw[hfs] at q
     exact eqFieldsT_ok hT (eqT2_ok n) _ _ _ _ q
   ·rename_i len e xs ys hd
    have hu:=und_array hT hr hd
    split at q
    ·rename_i s hs
     unfold eqA
     simp only[hu,sizeT_ok hT hs]
     exact eqElemsT_ok hT (fun x y b=>eqT2_ok n e x y b) e s _ _ _ _ q
    ·cases q
   ·rename_i kd k a k' b' hd
    have hu:=und_int hT hr hd
    unfold eqA
    simp only[hu,eqBasic]
    exact q
   ·rename_i hd
    have hu:=und_pointer hT hr hd
    cases q
    unfold eqA
    simp only[hu,eqBasic]
   ·cases q
  ·cases q
theorem keyElemsT_ok{ok1 ok2:Value→Bool}(he:∀v,ok1 v=true→ok2 v=true)(e s:Nat)(xs:List Value):∀(is:List Nat),keyElemsT T ok1 e s xs is=true→keyElems C ok2 e s xs is=true
 | [],_=>rfl
 | i::is,q=>by
  simp only[keyElemsT,Bool.and_eq_true] at q
  obtain⟨q1,q2⟩:=q
  unfold keyElems
  rw[keyElemsT_ok he e s xs is q2,Bool.and_true]
  split at q1
  ·rename_i a ha
   rw[readT_ok hT ha]
   exact he _ q1
  ·cases q1
theorem keyT2_ok:∀(n:Nat) (t:TypeId) (v:Value),keyT2 T n t v=true→keyOk C n t v=true
 | 0,_,_,q=>by cases q
 | n+1,t,v,q=>by
  unfold keyT2 at q
  split at q
  ·rename_i r hr
   split at q
   ·rename_i fs cs hd
    obtain⟨fs',hu,hfs⟩:=und_struct hT hr hd
    unfold keyOk
    simp only[hu]
    rw[hfs] at q
    exact keyFieldsT_ok hT (keyT2_ok n) _ _ q
   ·rename_i len e xs hd
    split at q
    ·rename_i s hs
     unfold keyOk
     simp only[und_array hT hr hd,sizeT_ok hT hs]
     exact keyElemsT_ok hT (fun v=>keyT2_ok n e v) e s _ _ q
    ·cases q
   ·rename_i k hd
    unfold keyOk
    rw[und_int hT hr hd]
    simpa [basicD] using q
   ·rename_i k hd
    unfold keyOk
    rw[und_pointer hT hr hd]
    simpa [basicD] using q
   ·cases q
  ·cases q
end
end Go.Abs
namespace Go.Proofs.D
theorem cand_eqB(p q:Cand):(((p.node:Int)==(q.node:Int))&&(((p.pack:Int)==(q.pack:Int))&&((((p.r0:Int)==(q.r0:Int))&&(((p.r1:Int)==(q.r1:Int))&&(((p.r2:Int)==(q.r2:Int))&&(((p.r3:Int)==(q.r3:Int))&&true))))&&(true&&true))))=decide (p=q):=by
 rw[Bool.eq_iff_iff]
 obtain⟨a,b,c,d,e,f⟩:=p
 obtain⟨a',b',c',d',e',f'⟩:=q
 simp only[Bool.and_eq_true,beq_iff_eq,decide_eq_true_eq,Cand.mk.injEq,and_true]
 omega
def keyC:KeyTy CC 156 Cand where
 key:=fun p=>.agg ⟨candV p (.pointer none)⟩
 ok:=fun p=>keyT2_ok hT 8 _ _ rfl
 eq:=fun p q=>by
  have h:eqA CC 8 156 (.agg ⟨candV p (.pointer none)⟩) (.agg ⟨candV q (.pointer none)⟩)=some (decide (p=q)):=by
   rw[←cand_eqB]
   exact eqT2_ok hT 8 _ _ _ _ rfl
  by_cases e:p=q
  ·exact .inl ⟨e,by rw[h];simp[e]⟩
  ·exact .inr ⟨e,by rw[h];simp[e]⟩
def keyW:KeyTy CC 198 (Nat×Nat) where
 key:=fun p=>.agg ⟨[.int .i64 p.1,.int .i64 p.2]⟩
 ok:=fun p=>keyT2_ok hT 8 _ _ rfl
 eq:=fun p q=>by
  have h:eqA CC 8 198 (.agg ⟨[.int .i64 p.1,.int .i64 p.2]⟩) (.agg ⟨[.int .i64 q.1,.int .i64 q.2]⟩)=some (decide (p=q)):=by
   rw[←key_eq]
   exact eqT2_ok hT 8 _ _ _ _ rfl
  by_cases e:p=q
  ·exact .inl ⟨e,by rw[h];simp[e]⟩
  ·exact .inr ⟨e,by rw[h];simp[e]⟩
inductive RowsP(F:Frz):List Value→List (Nat×Blk)→List (List Nat)→Prop
 | nil:RowsP F [] [] []
 | cons {a:Option Addr} {n c:Nat} {B bs:List (Nat×Blk)} {ps:List Nat} {vs:List Value} {pss:List (List Nat)}:Bld tPtr F a n c B ps→RowsP F vs bs pss→RowsP F (.slice a n c::vs) (B++bs) (ps::pss)
theorem cellsP{F G:Frz}{cs:List Value}{ps:List Nat}(h:Cells tPtr F cs ps):Cells tPtr G cs ps:=by
 induction h with
 | nil=>exact .nil
 | cons h _ ih=>exact .cons h ih
theorem bldP{F G:Frz}{a:Option Addr}{n c:Nat}{B:List (Nat×Blk)}{ps:List Nat}(h:Bld tPtr F a n c B ps):Bld tPtr G a n c B ps:=
 ⟨h.len,h.at_.imp id fun ⟨i,cs,h1,h2,h3,h4,h5⟩=>⟨i,cs,h1,h2,h3,cellsP h4,h5⟩⟩
theorem RowsP.any{F G:Frz}{vs:List Value}{bs:List (Nat×Blk)}{pss:List (List Nat)}(h:RowsP F vs bs pss):RowsP G vs bs pss:=by
 induction h with
 | nil=>exact .nil
 | cons h _ ih=>exact .cons (bldP h) ih
theorem RowsP.len{F:Frz}{vs:List Value}{bs:List (Nat×Blk)}{pss:List (List Nat)}(h:RowsP F vs bs pss):vs.length=pss.length:=by
 induction h with
 | nil=>rfl
 | cons _ _ ih=>simp[ih]
theorem RowsP.split{F:Frz}{vs:List Value}{bs:List (Nat×Blk)}{pss:List (List Nat)}(h:RowsP F vs bs pss):∀{i:Nat} {ps:List Nat},pss[i]?=some ps→
  ∃a n c B b1 b2,vs[i]?=some (.slice a n c)∧bs=b1++(B++b2)∧Bld tPtr F a n c B ps∧
   ∀(a':Option Addr) (n' c':Nat) (B':List (Nat×Blk)) (ps':List Nat),Bld tPtr F a' n' c' B' ps'→RowsP F (vs.set i (.slice a' n' c')) (b1++(B'++b2)) (pss.set i ps'):=by
 induction h with
 | nil=>intro i ps h;simp at h
 | @cons a n c B bs p0 vs pss hv hR ih=>
  intro i ps hi
  cases i with
  | zero=>
   obtain rfl:p0=ps:=by simpa using hi
   exact⟨a,n,c,B,[],bs,rfl,rfl,hv,fun a' n' c' B' ps' h'=>(show RowsP F (.slice a' n' c'::vs) (B'++bs) (ps'::pss) from .cons h' hR)⟩
  | succ i=>
   obtain⟨a',n',c',B',b1,b2,h1,h2,h3,h4⟩:=ih (i:=i) (by simpa using hi)
   refine⟨a',n',c',B',B++b1,b2,by simpa using h1,by rw[h2,List.append_assoc],h3,fun a2 n2 c2 B2 p2 h5=>?_⟩
   have:=RowsP.cons hv (h4 a2 n2 c2 B2 p2 h5)
   simpa [List.append_assoc] using this
def tCN:Ty Cand where
 size:=7
 rel:=fun _ l c=>l=candV c (.pointer none)
 len:=fun _ _ _ h=>by rw[h];rfl
 one:=fun _ _ _ h=>by rw[h];rfl
 mono:=fun _ _ _ _ _ h=>h
theorem cellsN{F G:Frz}{cs:List Value}{ps:List Cand}(h:Cells tCN F cs ps):Cells tCN G cs ps:=by
 induction h with
 | nil=>exact .nil
 | cons h _ ih=>exact .cons h ih
theorem bldC{F G:Frz}{a:Option Addr}{n c:Nat}{B:List (Nat×Blk)}{ps:List Cand}(h:Bld tCN F a n c B ps):Bld tCN G a n c B ps:=
 ⟨h.len,h.at_.imp id fun ⟨i,cs,h1,h2,h3,h4,h5⟩=>⟨i,cs,h1,h2,h3,cellsN h4,h5⟩⟩
inductive WaitsP(F:Frz):Ents (Nat×Nat)→List (Nat×Blk)→List ((Nat×Nat)×List Cand)→Prop
 | nil:WaitsP F [] [] []
 | cons {k:Nat×Nat} {a:Option Addr} {n c:Nat} {B bs:List (Nat×Blk)} {cs:List Cand} {m:Ents (Nat×Nat)} {ws:List ((Nat×Nat)×List Cand)}:Bld tCN F a n c B cs→WaitsP F m bs ws→WaitsP F ((k,.slice a n c)::m) (B++bs) ((k,cs)::ws)
theorem WaitsP.any{F G:Frz}{m:Ents (Nat×Nat)}{bs:List (Nat×Blk)}{ws:List ((Nat×Nat)×List Cand)}(h:WaitsP F m bs ws):WaitsP G m bs ws:=by
 induction h with
 | nil=>exact .nil
 | cons h _ ih=>exact .cons (bldC h) ih
def getW:List ((Nat×Nat)×List Cand)→Nat×Nat→List Cand
 | [],_=>[]
 | (k,cs)::ws,w=>if w=k then cs else getW ws w
theorem getW_none{F:Frz}{m:Ents (Nat×Nat)}{bs:List (Nat×Blk)}{ws:List ((Nat×Nat)×List Cand)}(h:WaitsP F m bs ws){w:Nat×Nat}(hw:∀p∈m,p.1≠w):getW ws w=[]:=by
 induction h with
 | nil=>rfl
 | cons _ _ ih=>
  unfold getW
  rw[if_neg fun e=>hw _ me e.symm]
  exact ih fun p hp=>hw p (List.mem_cons_of_mem _ hp)
theorem WaitsP.split{F:Frz}{m:Ents (Nat×Nat)}{bs:List (Nat×Blk)}{ws:List ((Nat×Nat)×List Cand)}(h:WaitsP F m bs ws)(hn:(m.map (·.1)).Nodup)(w:Nat×Nat) :
  (Abs.look m w=none∧getW ws w=[]∧mdel m w=m∧∀(a:Option Addr) (n c:Nat) (B:List (Nat×Blk)) (cs:List Cand),Bld tCN F a n c B cs→∃ws',WaitsP F (mset m w (.slice a n c)) (bs++B) ws'∧∀x,getW ws' x=if x=w then cs else getW ws x)∨
  (∃a n c B b1 b2,Abs.look m w=some (.slice a n c)∧bs=b1++(B++b2)∧Bld tCN F a n c B (getW ws w)∧
   (∀(a':Option Addr) (n' c':Nat) (B':List (Nat×Blk)) (cs':List Cand),Bld tCN F a' n' c' B' cs'→∃ws',WaitsP F (mset m w (.slice a' n' c')) (b1++(B'++b2)) ws'∧∀x,getW ws' x=if x=w then cs' else getW ws x)∧
   ∃ws',WaitsP F (mdel m w) (b1++b2) ws'∧∀x,getW ws' x=if x=w then [] else getW ws x):=by
 induction h with
 | nil=>exact .inl ⟨rfl,rfl,rfl,fun a n c B cs hb=>⟨[(w,cs)],by simpa [mset] using WaitsP.cons (k:=w) hb .nil,fun x=>by simp[getW]⟩⟩
 | @cons k a n c B bs cs m ws hb hW ih=>
  simp only[List.map_cons,List.nodup_cons] at hn
  by_cases e:w=k
  ·subst e
   refine .inr ⟨a,n,c,B,[],bs,by simp[Abs.look],rfl,by simpa [getW] using hb,fun a' n' c' B' cs' hb'=>⟨(w,cs')::ws,?_,fun x=>?_⟩,ws,?_,fun x=>?_⟩
   ·have:mset ((w,Value.slice a n c)::m) w (.slice a' n' c')=(w,.slice a' n' c')::m:=by simp[mset]
    rw[this]
    exact(show WaitsP F ((w,.slice a' n' c')::m) (B'++bs) ((w,cs')::ws) from .cons hb' hW)
   ·unfold getW
    by_cases hx:x=w
    ·rw[if_pos hx,if_pos hx]
    ·rw[if_neg hx,if_neg hx,if_neg hx]
   ·have:mdel ((w,Value.slice a n c)::m) w=m:=by simp[mdel]
    rw[this]
    exact hW
   ·by_cases hx:x=w
    ·rw[if_pos hx,hx]
     exact getW_none hW fun p hp e2=>hn.1 (List.mem_map.2 ⟨p,hp,e2⟩)
    ·rw[if_neg hx]
     show getW ws x=getW ((w,cs)::ws) x
     unfold getW
     rw[if_neg hx]
     cases ws<;>rfl
  ·have hg:∀(ws:List ((Nat×Nat)×List Cand)) (cs:List Cand),getW ((k,cs)::ws) w=getW ws w:=fun ws cs=>by
    show (if w=k then cs else getW ws w)=_
    rw[if_neg e]
   have hg2:∀(ws':List ((Nat×Nat)×List Cand)) (v:List Cand),(∀x,getW ws' x=if x=w then v else getW ws x)→∀x,getW ((k,cs)::ws') x=if x=w then v else getW ((k,cs)::ws) x:=fun ws' v h x=>by
    show (if x=k then cs else getW ws' x)=if x=w then v else (if x=k then cs else getW ws x)
    by_cases hx:x=k
    ·rw[if_pos hx,if_neg (fun e2=>e (e2.symm.trans hx)),if_pos hx]
    ·rw[if_neg hx,h x,if_neg hx]
   rcases ih hn.2 with ⟨h1,h2,h2',h3⟩ | ⟨a2,n2,c2,B2,b1,b2,h1,h2,h3,h4,ws',h5,h6⟩
   ·refine .inl ⟨by simp only[Abs.look];rw[if_neg e];exact h1,by rw[hg];exact h2,by simp only[mdel];rw[if_neg e,h2'],fun a' n' c' B' cs' hb'=>?_⟩
    obtain⟨ws',h5,h6⟩:=h3 a' n' c' B' cs' hb'
    refine⟨(k,cs)::ws',?_,hg2 ws' cs' h6⟩
    have:mset ((k,Value.slice a n c)::m) w (.slice a' n' c')=(k,.slice a n c)::mset m w (.slice a' n' c'):=by simp only[mset];rw[if_neg e]
    rw[this,List.append_assoc]
    exact .cons hb h5
   ·refine .inr ⟨a2,n2,c2,B2,B++b1,b2,by simp only[Abs.look];rw[if_neg e];exact h1,by rw[h2,List.append_assoc],by rw[hg];exact h3,fun a' n' c' B' cs' hb'=>?_,(k,cs)::ws',?_,hg2 ws' [] h6⟩
    ·obtain⟨ws',h5,h6⟩:=h4 a' n' c' B' cs' hb'
     refine⟨(k,cs)::ws',?_,hg2 ws' cs' h6⟩
     have:mset ((k,Value.slice a n c)::m) w (.slice a' n' c')=(k,.slice a n c)::mset m w (.slice a' n' c'):=by simp only[mset];rw[if_neg e]
     rw[this,List.append_assoc]
     exact .cons hb h5
    ·have:mdel ((k,Value.slice a n c)::m) w=(k,.slice a n c)::mdel m w:=by simp only[mdel];rw[if_neg e]
     rw[this,List.append_assoc]
     exact .cons hb h5
def foOf(Ns:List Node):Fo where
 n:=Ns.length
 leaf:=fun v=>match Ns[v]? with
  | some x=>if x.key.sym.term=true then some x.key.sym.n else none
  | none=>none
 packs:=fun v=>match Ns[v]? with
  | some x=>x.packs
  | none=>[]
structure LP where
 li:Nat
 na:Option Addr
 nn:Nat
 nc:Nat
 root:Nat
 most:Nat
 lo:Nat
 lc:Nat
 is:Nat
 iw:Nat
structure LR where
 qa:Option Addr
 qn:Nat
 qc:Nat
 qB:List (Nat×Blk)
 Q:List (Cand×Tree)
 vs:List Value
 bs:List (Nat×Blk)
 pss:List (List Nat)
 se:List (Value×Value)
 sm:Ents Cand
 we:List (Value×Value)
 wm:Ents (Nat×Nat)
 wbs:List (Nat×Blk)
 ws:List ((Nat×Nat)×List Cand)
def lrL(p:LP):LB:=⟨p.li,.slice p.na p.nn p.nc,.int .i64 p.root,.int .i64 p.most,.slice (some ⟨p.lo,0,none⟩) p.nn p.lc,.map (some p.is),.map (some p.iw),rfl,rfl,rfl,rfl,rfl,rfl⟩
def lrB(p:LP)(r:LR):List (Nat×Blk):=lB (lrL p) r.qa r.qn r.qc r.qB++([(p.lo,.cells false r.vs)]++(r.bs++([(p.is,.map r.se)]++([(p.iw,.map r.we)]++r.wbs))))
structure LOk(p:LP)(Ns:List Node)(F:Frz)(r:LR)(s:Lst):Prop where
 nodes:Arr tNode F p.na p.nn p.nc Ns
 q:GB tCQ F r.qa r.qn r.qc r.qB r.Q
 qp:r.Q.Perm s.q
 qh:HeapN r.Q r.Q.length
 rows:RowsP F r.vs r.bs r.pss
 rlen:r.pss.length=p.nn
 trees:∀(v:Nat) (ps:List Nat),r.pss[v]?=some ps→ShL F ps (s.lists v)
 se:alive r.se=entsV keyC r.sm
 sl:∀c,Abs.look r.sm c=if c∈s.seen then some (.bool true) else none
 we:alive r.we=entsV keyW r.wm
 wn:(r.wm.map (·.1)).Nodup
 ws:WaitsP F r.wm r.wbs r.ws
 wg:∀w,s.waits w=getW r.ws w
theorem LOk.mono{p:LP}{Ns:List Node}{F G:Frz}{r:LR}{s:Lst}(h:LOk p Ns F r s)(hF:Frz.le F G):LOk p Ns G r s:=
 ⟨h.nodes.mono hF,h.q.mono hF,h.qp,h.qh,h.rows.any,h.rlen,fun v ps hv=>(h.trees v ps hv).mono hF,h.se,h.sl,h.we,h.wn,h.ws.any,h.wg⟩
theorem lrB_own(p:LP)(r:LR)(own:Own):OwnLe (((p.li,.cells false [.slice p.na p.nn p.nc,.int .i64 p.root,.int .i64 p.most,.slice (some ⟨p.lo,0,none⟩) p.nn p.lc,.map (some p.is),.map (some p.iw),.slice r.qa r.qn r.qc])::r.qB)::[(p.lo,.cells false r.vs)]::r.bs::[(p.is,.map r.se)]::[(p.iw,.map r.we)]::r.wbs::own) (lrB p r::own):=
 OwnLe.flat (List.Perm.of_eq (by simp[lrB,lB,lrL,lCells]))
theorem lrB_own'(p:LP)(r:LR)(own:Own):OwnLe (lrB p r::own) (((p.li,.cells false [.slice p.na p.nn p.nc,.int .i64 p.root,.int .i64 p.most,.slice (some ⟨p.lo,0,none⟩) p.nn p.lc,.map (some p.is),.map (some p.iw),.slice r.qa r.qn r.qc])::r.qB)::[(p.lo,.cells false r.vs)]::r.bs::[(p.is,.map r.se)]::[(p.iw,.map r.we)]::r.wbs::own):=
 OwnLe.flat (List.Perm.of_eq (by simp[lrB,lB,lrL,lCells]))
theorem Inv.q_few{f:Fo}{most:Nat}{s:Lst}{done pend ex:List Cand}(h:Inv f most s done pend ex):s.q.length≤s.seen.length:=by
 have:=sub_len (s.q.map (·.1)) s.seen h.qnd fun c hc=>by
  obtain⟨x,hx,rfl⟩:=List.mem_map.1 hc
  exact(h.qok x hx).1
 rwa [List.length_map] at this
theorem Inv.w_few{f:Fo}{most:Nat}{s:Lst}{done pend ex:List Cand}(h:Inv f most s done pend ex)(w:Nat×Nat):(s.waits w).length≤s.seen.length:=
 sub_len (s.waits w) s.seen (h.wnd w) fun c hc=>(h.wok w c hc).1
theorem miss_at{L:Nat→List Tree}:∀{ks rs:List Nat} {j k r:Nat},(∀i,i<j→∃k r t,ks[i]?=some k∧rs[i]?=some r∧(L k)[r]?=some t)→ks[j]?=some k→rs[j]?=some r→(L k)[r]?=none→miss L ks rs=some (k,r)
 | [],_,_,_,_,_,h,_,_=>by simp at h
 | _::_,[],_,_,_,_,_,h,_=>by simp at h
 | k0::ks,r0::rs,0,k,r,_,h1,h2,h3=>by
  obtain rfl:k0=k:=by simpa using h1
  obtain rfl:r0=r:=by simpa using h2
  unfold miss
  simp only[h3]
 | k0::ks,r0::rs,j+1,k,r,h0,h1,h2,h3=>by
  obtain⟨k',r',t,e1,e2,e3⟩:=h0 0 zo
  obtain rfl:k0=k':=by simpa using e1
  obtain rfl:r0=r':=by simpa using e2
  unfold miss
  simp only[e3]
  exact miss_at (j:=j) (fun i hi=>by
   obtain⟨k',r',t,e1,e2,e3⟩:=h0 (i+1) zo
   exact⟨k',r',t,by simpa using e1,by simpa using e2,e3⟩) (by simpa using h1) (by simpa using h2) h3
theorem pick_miss{L:Nat→List Tree}{ks rs:List Nat}{ts:List Tree}(h:pick L ks rs=some ts):miss L ks rs=none:=by
 cases hm:miss L ks rs with
 | none=>rfl
 | some w=>
  obtain⟨i,h1,h2,h3⟩:=miss_some (k:=w.1) (r:=w.2) hm
  obtain⟨r,t,e1,e2,_⟩:=(pick_some h).2 i _ h1
  rw[h2] at e1;cases e1
  rw[h3] at e2;cases e2
theorem WaitsP.slot{F:Frz}{m:Ents (Nat×Nat)}{bs:List (Nat×Blk)}{ws:List ((Nat×Nat)×List Cand)}(h:WaitsP F m bs ws)(hn:(m.map (·.1)).Nodup)(w:Nat×Nat) :
  ∃a n c WB W1 W2,(Abs.look m w).getD (.slice none 0 0)=.slice a n c∧bs=W1++(WB++W2)∧Bld tCN F a n c WB (getW ws w)∧
   (∀(a':Option Addr) (n' c':Nat) (B':List (Nat×Blk)) (cs':List Cand),Bld tCN F a' n' c' B' cs'→∃ws',WaitsP F (mset m w (.slice a' n' c')) (W1++(B'++W2)) ws'∧∀x,getW ws' x=if x=w then cs' else getW ws x)∧
   ∃ws',WaitsP F (mdel m w) (W1++W2) ws'∧∀x,getW ws' x=if x=w then [] else getW ws x:=by
 rcases h.split hn w with ⟨h1,h2,h2',h3⟩ | ⟨a,n,c,B,b1,b2,h1,h2,h3,h4,h5⟩
 ·refine⟨none,0,0,[],bs,[],by rw[h1];rfl,by simp,by rw[h2];exact Bld.nil_ _ _,fun a' n' c' B' cs' hb=>?_,ws,by rw[h2',List.append_nil];exact h,fun x=>?_⟩
  ·rw[List.append_nil];exact h3 a' n' c' B' cs' hb
  ·split
   ·rename_i e;rw[e,h2]
   ·rfl
 ·exact⟨a,n,c,B,b1,b2,by rw[h1];rfl,h2,h3,h4,h5⟩
theorem own_wsplit(A B C:List (Nat×Blk))(own:Own):OwnLe ((A++C)::B::own) ((A++(B++C))::own):=by
 refine OwnLe.flat ?_
 simp only[List.flatten_cons,List.append_assoc]
 refine List.Perm.append_left A ?_
 have:=(List.perm_append_comm (l₁:=B) (l₂:=C)).append_right own.flatten
 simpa [List.append_assoc] using this
theorem own_wjoin(A B C:List (Nat×Blk))(own:Own):OwnLe ((A++(B++C))::own) ((A++C)::B::own):=by
 refine OwnLe.flat ?_
 simp only[List.flatten_cons,List.append_assoc]
 refine List.Perm.append_left A ?_
 have:=(List.perm_append_comm (l₁:=C) (l₂:=B)).append_right own.flatten
 simpa [List.append_assoc] using this
theorem cand_rank{c:Cand}{j r:Nat}{t:Value}(h:c.ranks[j]?=some r):([.int .i64 c.node,.int .i64 c.pack,.int .i64 c.r0,.int .i64 c.r1,.int .i64 c.r2,.int .i64 c.r3,t]:List Value)[0+2+j*1]?=some (.int .i64 r):=by
 match j,h with
 | 0,h=>simp[Cand.ranks] at h;subst h;rfl
 | 1,h=>simp[Cand.ranks] at h;subst h;rfl
 | 2,h=>simp[Cand.ranks] at h;subst h;rfl
 | 3,h=>simp[Cand.ranks] at h;subst h;rfl
 | _+4,h=>simp[Cand.ranks] at h
structure TrS where
 ka:Option Addr
 kc:Nat
 KB:List (Nat×Blk)
 ps:List Nat
 ts:List Tree
theorem ltry_spec(F:Frz){p:LP}{Ns:List Node}{r:LR}{s:Lst}{c:Cand}{done pend ex:List Cand}(hl:LOk p Ns F r s)(hf:(foOf Ns).Good)(hI:Inv (foOf Ns) p.most s done (c::pend) ex)(hm:p.most≤1000)(hseen:s.seen.length≤800000000000)(hNs:Ns.length≤1000000) :
  Abs.Spec CC 102 [.pointer (some ⟨p.li,0,none⟩),.agg ⟨candV c (.pointer none)⟩] F [lrB p r] fun F' v o=>∃B',o=[B']∧∃r',B'=lrB p r'∧LOk p Ns F' r' (tryS (foOf Ns) s c):=by
 have hnl:=hl.nodes.len
 have hok:=hI.ok c (hI.psub c me)
 obtain⟨pk,hpk⟩:=hok.pack
 have hcn:c.node<Ns.length:=hok.node
 obtain⟨x,hx⟩:∃x,Ns[c.node]?=some x:=⟨_,gE hcn⟩
 have hpx:x.packs[c.pack]?=some pk:=by
  unfold packAt foOf at hpk
  simpa [hx] using hpk
 have hkid:=hf.kids c.node hok.node pk (gM hpk)
 have hcr:∀r0∈c.ranks,r0≤1000:=fun r0 h0=>Nat.le_trans (hok.rank r0 h0) hm
 have hqf:=hI.q_few
 have hqn:r.qn≤800000000000:=by rw[hl.q.len,hl.qp.length_eq];omega
 unfold candV
 refine Abs.Spec.fn (n:=120) Tryz.func102 rfl rfl fun own=>?_
 refine AW.seq (AW.reg ?_)
 refine WT.boxT Z Z Z Z Z Z (fun i3 hi3=>?_)
 refine WT.le (OwnLe.cons _ (lrB_own p r own)) ?_
 refine zB4 ?_
 refine AW.draw (ps:=[(4,14),(6,14),(9,14),(11,14),(13,14)]) Z Z ?_
 refine zB4 ?_
 refine WT.idxL hT hl.nodes Z Z Z Z Z Z Z Z Z zo (fun z hz b7 off7 ro7 cs7 lx7 hb7 hp7 hrel7=>?_)
 rw[hx] at hz;cases hz
 obtain⟨pa,pn,pc,rfl,hpa⟩:=hrel7
 have hpal:=hpa.len
 refine zB4 ?_
 refine WT.idxL hT hpa Z Z Z Z Z Z Z Z Z (by have:=(gS hpx).1;omega) (fun z hz b8 off8 ro8 cs8 lx8 hb8 hp8 hrel8=>?_)
 rw[hpx] at hz;cases hz
 obtain⟨ka,kn,kc,rfl,hka,hkl⟩:=hrel8
 have hkal:=hka.len
 refine zB4 ?_
 refine WT.allocT hT Z Z Z Z Z Z (fun i4 hi4=>?_)
 refine zB4 ?_
 refine⟨zrA,?_⟩
 refine zB4 ?_
 refine WT.boxT Z Z Z Z Z Z (fun i5 hi5=>?_)
 refine zB4 ?_
 refine AW.range (S:=TrS) (fun _=>[]) (fun u=>[(i5,.cells false [.int .i64 pk.rule,.int .i64 0,.int .i64 ((1+(preL u.ts).length:Nat):Int),.slice u.ka u.ts.length u.kc])]::u.KB::[(i4,.cells false [.int .i64 pk.rule,.slice ka kn kc])]::[(i3,.cells false [.int .i64 c.node,.int .i64 c.pack,.int .i64 c.r0,.int .i64 c.r1,.int .i64 c.r2,.int .i64 c.r3,.pointer none])]::((p.li,.cells false [.slice p.na p.nn p.nc,.int .i64 p.root,.int .i64 p.most,.slice (some ⟨p.lo,0,none⟩) p.nn p.lc,.map (some p.is),.map (some p.iw),.slice r.qa r.qn r.qc])::r.qB)::[(p.lo,.cells false r.vs)]::r.bs::[(p.is,.map r.se)]::[(p.iw,.map r.we)]::r.wbs::own)
  (fun j u G=>Bld tPtr G u.ka u.ts.length u.kc u.KB u.ps∧ShL G u.ps u.ts∧u.ts.length=j∧(preL u.ts).length≤j*5000∧∀i,i<j→∃k r t,pk.kids[i]?=some k∧c.ranks[i]?=some r∧(s.lists k)[r]?=some t∧u.ts[i]?=some t) kn ⟨none,0,[],[],[]⟩
  Z Z Z Z Z Z Z Z Z zo rfl rfl (fun _=>rfl) (fun _=>rfl) sM (OwnLe.flat (List.Perm.refl _)) ⟨Bld.nil_ _ _,.nil,rfl,Nat.zero_le _,fun i hi=>by omega⟩ ?_ ?_
 ·intro j u F1 hF1 hj hP
  obtain⟨hb,hS,hul,hul2,hav⟩:=hP
  have hl1:=hl.mono hF1
  have hka1:=hka.mono hF1
  refine zB6 ?_
  refine WT.idxL hT hka1 Z Z Z Z Z Z Z Z Z zo (fun k hk b9 off9 ro9 cs9 lx9 hb9 hp9 hrel9=>?_)
  obtain rfl:lx9=_:=hrel9
  have hj4:j<4:=by omega
  obtain⟨rj,hrj⟩:∃rj,c.ranks[j]?=some rj:=⟨_,gE (by show j<4;exact hj4)⟩
  have hrj1:=hcr rj (gM hrj)
  have hkn:k<Ns.length:=hkid.2 k (gM hk)
  obtain⟨ps,hps⟩:∃ps,r.pss[k]?=some ps:=⟨_,gE (by have:=hl.rlen;omega)⟩
  obtain⟨va,vn,vc,VB,b1,b2,hvk,hbs,hVB,hput⟩:=hl1.rows.split hps
  have htr:=hl1.trees k ps hps
  have hvn:=hVB.len
  have htrl:=htr.len
  refine zB6 ?_
  refine WT.idxArr (j:=j) (s:=1) (len:=4) hT Z Z Z Z Z Z Z Z Z hj4 ?_
  refine WT.loadAt hT 3 Z Z Z Z Z Z me Z Z (cand_rank hrj) ?_
  refine zB6 ?_
  refine WT.idxA (j:=k) (s:=1) hT Z Z Z Z Z Z Z Z Z zo ?_
  refine WT.loadAt hT 5 Z Z Z Z Z Z me Z Z (v:=.slice va vn vc) (by rw[Nat.zero_add,Nat.mul_one];exact hvk) ?_
  refine zB6 ?_
  refine AW.cond Z (fun hc=>?_) (fun hc=>?_)
  ·have hc:vn≤rj:=by simp at hc;omega
   have hmiss:miss s.lists pk.kids c.ranks=some (k,rj):=miss_at (j:=j) (fun i hi=>by
    obtain⟨k',r',t,h1,h2,h3,_⟩:=hav i hi
    exact⟨k',r',t,h1,h2,h3⟩) hk hrj (List.getElem?_eq_none zo)
   obtain⟨xa,xn,xc,WB,W1,W2,hlk,hwbs,hWB,hset,_⟩:=hl1.ws.slot hl1.wn (k,rj)
   have hwf:=hI.w_few (k,rj)
   rw[hl1.wg] at hwf
   have hxn:=hWB.len
   rw[hwbs]
   refine AW.le (OwnLe.cons _ (OwnLe.cons _ (OwnLe.cons _ (OwnLe.cons _ (OwnLe.cons _ (OwnLe.cons _ (OwnLe.cons _ (OwnLe.cons _ (OwnLe.cons _ (own_wsplit W1 WB W2 own)))))))))) ?_
   refine zB6 ?_
   refine WT.idxArr (j:=j) (s:=1) (len:=4) hT Z Z Z Z Z Z Z Z Z hj4 ?_
   refine WT.loadAt hT 3 Z Z Z Z Z Z me Z Z (cand_rank hrj) ?_
   refine zB6 ?_
   refine WT.allocT hT Z Z Z Z Z Z (fun i8 hi8=>?_)
   refine zB6 ?_
   refine AW.draw (ps:=[(3,6),(4,6)]) Z Z ?_
   refine zB6 ?_
   refine WT.buildT hT Z Z Z Z Z Z Z Z Z Z Z Z Z Z (fun i62 hi62=>?_)
   refine WT.entryE keyW (key:=(k,rj)) hT 10 0 hl1.we Z Z Z Z Z Z Z Z Z Z Z (fun _=>rfl) (fun _=>rfl) (fun es1 st he=>?_)
   rw[hlk]
   refine zB6 ?_
   refine WT.appendT (ys:=[c]) hT 12 hWB Z (fun _=>rfl) Z Z Z Z Z Z Z Z Z Z Z (fun h0 s0=>news_own hT s0 0 Z Z Z Z) (Cells.single (R:=tCN) (x:=c) rfl) Z (by decide) zom (fun a3 c3 B3 hB3=>?_)
   refine zB6 ?_
   refine WT.entrySt keyW 10 0 he Z Z Z Z Z Z Z Z (fun _=>rfl) (fun _=>rfl) (fun es2 hes2=>?_)
   refine zB6 ?_
   refine⟨zrA,?_⟩
   skip
   obtain⟨ws',hws',hwg'⟩:=hset a3 (xn+1) c3 B3 _ hB3
   have htry:tryS (foOf Ns) s c={ s with waits:=fun x=>if x=(k,rj) then s.waits (k,rj)++[c] else s.waits x }:=by
    unfold tryS
    simp only[hpk,hmiss]
   refine AW.le (OwnLe.trans (lrB_own' p ⟨r.qa,r.qn,r.qc,r.qB,r.Q,r.vs,r.bs,r.pss,r.se,r.sm,es2,mset r.wm (k,rj) (.slice a3 (xn+1) c3),W1++(B3++W2),ws'⟩ own) (OwnLe.skip _ (OwnLe.skip _ (OwnLe.skip _ (OwnLe.skip _ (OwnLe.skip _ (OwnLe.skip _ (OwnLe.cons _ (OwnLe.cons _ (OwnLe.cons _ (OwnLe.cons _ (OwnLe.cons _ (own_wjoin W1 B3 W2 own))))))))))))) ?_
   refine AW.ret ⟨_,[_],rfl,zsb,_,rfl,_,rfl,?_⟩
   rw[htry]
   exact⟨hl1.nodes,hl1.q,hl1.qp,hl1.qh,hl1.rows,hl1.rlen,hl1.trees,hl1.se,hl1.sl,hes2,mset_keys hl1.wn,hws',fun x=>by
    show (if x=(k,rj) then s.waits (k,rj)++[c] else s.waits x)=_
    rw[hwg' x,hl1.wg,hl1.wg]⟩
  ·have hc:rj<vn:=by simp at hc;omega
   obtain⟨px,hpx2⟩:∃px,ps[rj]?=some px:=⟨_,gE zo⟩
   obtain⟨tt,htt⟩:∃tt,(s.lists k)[rj]?=some tt:=⟨_,gE zo⟩
   have hsh:=htr.at_ hpx2 htt
   have hsm:=hI.small k tt (gM htt)
   refine zB6 ?_
   refine WT.idxA (j:=k) (s:=1) hT Z Z Z Z Z Z Z Z Z zo ?_
   refine WT.loadAt hT 5 Z Z Z Z Z Z me Z Z (v:=.slice va vn vc) (by rw[Nat.zero_add,Nat.mul_one];exact hvk) ?_
   refine zB6 ?_
   refine WT.idxArr (j:=j) (s:=1) (len:=4) hT Z Z Z Z Z Z Z Z Z hj4 ?_
   refine WT.loadAt hT 3 Z Z Z Z Z Z me Z Z (cand_rank hrj) ?_
   skip
   refine WT.gidx hT hVB.gb Z Z Z Z Z Z Z Z Z hc (fun b1 hb1=>?_)
   refine WT.gld1 (x:=px) hT 6 hVB.gb hb1 hpx2 Z Z Z Z Z Z (fun z hz=>by rw[hbs];exact List.mem_append_right _ (List.mem_append_left _ hz)) Z Z Z (fun v hv=>?_)
   obtain rfl:v=_:=(List.singleton_inj.1 hv)
   refine zB6 ?_
   refine WT.buildT hT Z Z Z Z Z Z Z Z Z Z Z Z Z Z (fun i9 hi9=>?_)
   refine WT.appendT (ys:=[px]) hT 2 hb Z (fun _=>rfl) Z Z Z Z Z Z Z Z Z Z Z (fun h0 s0=>news_own hT s0 0 Z Z Z Z) (Cells.single (R:=tPtr) (x:=px) rfl) Z (by decide) zom (fun a3 c3 B3 hB3=>?_)
   have hsh0:=hsh
   cases hsh with
   | @mk _ tr tm tks ta tn tc tps g1 g2 g3=>
   refine zC6 ?_
   have elen:(preL (u.ts++[Tree.mk tr tm tks])).length=(preL u.ts).length+(Tree.mk tr tm tks).pre.length:=by
    rw[preL_app];simp[preL]
   refine⟨⟨a3,c3,B3,u.ps++[px],u.ts++[Tree.mk tr tm tks]⟩,sM,?_,by show Bld tPtr F1 a3 (u.ts++[_]).length c3 B3 _;rw[List.length_append];exact hB3,ShL.app hS (.cons hsh0 .nil),by show (u.ts++[_]).length=j+1;simp[hul],by show (preL (u.ts++[_])).length≤_;rw[elen];omega,fun i hi=>?_⟩
   ·show OwnLe ([(i5,Blk.cells false [.int .i64 pk.rule,.int .i64 0,.int .i64 ((1+(preL (u.ts++[Tree.mk tr tm tks])).length:Nat):Int),.slice a3 (u.ts++[Tree.mk tr tm tks]).length c3])]::B3::_) _
    rw[elen,List.length_append,←Nat.add_assoc]
    exact OwnLe.skip _ oR
   ·show ∃k r t,_∧_∧_∧(u.ts++[Tree.mk tr tm tks])[i]?=some t
    rcases Nat.lt_or_ge i j with h1 | h1
    ·obtain⟨k',r',t',e1,e2,e3,e4⟩:=hav i h1
     exact⟨k',r',t',e1,e2,e3,by rw[List.getElem?_append_left zo];exact e4⟩
    ·obtain rfl:i=j:=by omega
     exact⟨k,rj,_,hk,hrj,htt,by rw[List.getElem?_append_right zo,hul,Nat.sub_self];rfl⟩
 ·intro u F1 hF1 hP
  obtain⟨hb,hS,hul,hul2,hav⟩:=hP
  have hl1:=hl.mono hF1
  have hbl:=hb.len
  have hpick:pick s.lists pk.kids c.ranks=some u.ts:=pick_of zo fun i k hk=>by
   obtain⟨k',r',t',e1,e2,e3,e4⟩:=hav i (by have:=(gS hk).1;omega)
   rw[hk] at e1;cases e1
   exact⟨r',t',e2,e3,e4⟩
  have htry:tryS (foOf Ns) s c={ s with q:=s.q++[(c,.mk pk.rule 0 u.ts)] }:=by
   unfold tryS
   simp only[hpk,pick_miss hpick,hpick]
  have epre:(Tree.mk pk.rule 0 u.ts).pre.length=1+(preL u.ts).length:=by
   show (_::preL u.ts).length=_
   rw[List.length_cons,Nat.add_comm]
  refine zB6 ?_
  refine AW.cond Z (fun h=>?_) (fun _=>?_)
  ·exfalso;simp at h
  refine zB6 ?_
  refine WT.freezeAll 0 Z Z (fun F2 hF2 hB2=>?_)
  refine WT.freezeAll 1 Z Z (fun F3 hF3 hB3=>?_)
  have hka3:=(hb.mono hF2).frozen hF3 hB3
  have hi5':=hF3 _ _ (hB2 i5 _ me)
  have hsh:Sh F3 i5 (.mk pk.rule 0 u.ts):=.mk (by rw[epre];exact hi5') hka3 (hS.mono (hF2.trans hF3))
  have hl3:=(hl1.mono hF2).mono hF3
  refine WT.ifaceT hT Z Z Z Z Z Z ?_
  refine zB6 ?_
  refine WT.ifaceT hT Z Z Z Z Z Z ?_
  refine WT.call1F 4 Tryz.func122 Z Z Z Z Z Z Z (fun _=>rfl) (hpush_spec F3 (lrL p) hl3.q zo hl3.qh (x:=(c,.mk pk.rule 0 u.ts)) (l:=candV c (.pointer (some ⟨i5,0,none⟩))) ⟨i5,rfl,hsh,by rw[epre];omega⟩) (fun F4 v B4 hF4 hv=>?_)
  obtain⟨a',c',B5,Q2,rfl,hB5,hp2,hh2⟩:=hv
  refine WT.le (OwnLe.trans (lrB_own' p ⟨a',r.qn+1,c',B5,Q2,r.vs,r.bs,r.pss,r.se,r.sm,r.we,r.wm,r.wbs,r.ws⟩ own) (OwnLe.skip _ (OwnLe.skip _ (OwnLe.skip _ (OwnLe.skip _ oR))))) ?_
  refine zB6 ?_
  have hl4:=hl3.mono hF4
  refine⟨_,[_],rfl,zsb,_,rfl,_,rfl,?_⟩
  rw[htry]
  exact⟨hl4.nodes,hB5,hp2.trans (hl4.qp.append_right _),hh2,hl4.rows,hl4.rlen,hl4.trees,hl4.se,hl4.sl,hl4.we,hl4.wn,hl4.ws,hl4.wg⟩
def LeO(a b:Option Nat):Prop:=∀y,b=some y→∃x,a=some x∧x≤y
theorem LeO.refl(a:Option Nat):LeO a a:=fun y h=>⟨y,h,Nat.le_refl _⟩
theorem LeO.trans{a b c:Option Nat}(h:LeO a b)(h2:LeO b c):LeO a c:=fun y e=>by
 obtain⟨x,e1,l1⟩:=h2 y e
 obtain⟨z,e2,l2⟩:=h x e1
 exact⟨z,e2,Nat.le_trans l2 l1⟩
theorem LeO.none(a:Option Nat):LeO a none:=fun y h=>by cases h
theorem LeO.eq{a b:Option Nat}(h:LeO a b)(h2:LeO b a):a=b:=by
 cases b with
 | none=>cases a with
  | none=>rfl
  | some x=>obtain⟨z,e,_⟩:=h2 x rfl;cases e
 | some y=>
  obtain⟨x,rfl,l1⟩:=h y rfl
  obtain⟨z,e,l2⟩:=h2 x rfl
  have e:=Option.some.inj e
  rw[show x=y by omega]
theorem LeO.of_some{x y:Nat}(h:x≤y):LeO (some x) (some y):=fun z e=>⟨x,rfl,by have:=Option.some.inj e;omega⟩
theorem minO_left(a b:Option Nat):LeO (minO a b) a:=by
 cases a<;>cases b<;>intro y h<;>cases h<;>exact⟨_,rfl,by omega⟩
theorem minO_right(a b:Option Nat):LeO (minO a b) b:=by
 cases a<;>cases b<;>intro y h<;>cases h<;>exact⟨_,rfl,by omega⟩
theorem minO_or(a b:Option Nat):minO a b=a∨minO a b=b:=by
 cases a with
 | none=>exact .inr rfl
 | some x=>cases b with
  | none=>exact .inl rfl
  | some y=>
   show some (min x y)=_∨some (min x y)=_
   rcases Nat.le_total x y with h | h
   ·left;rw[Nat.min_eq_left h]
   ·right;rw[Nat.min_eq_right h]
theorem sum_map_le{f h:Nat→Nat}:∀{l:List Nat},(∀k∈l,f k≤h k)→(l.map f).sum≤(l.map h).sum
 | [],_=>Nat.le_refl _
 | k::l,hl=>by
  have h1:=hl k me
  have h2:=sum_map_le (l:=l) fun q hq=>hl q (List.mem_cons_of_mem _ hq)
  simp only[List.map_cons,List.sum_cons];omega
theorem sum_map_mem{f:Nat→Nat}:∀{l:List Nat} {k:Nat},k∈l→f k≤(l.map f).sum
 | q::l,k,hk=>by
  simp only[List.map_cons,List.sum_cons]
  rcases List.mem_cons.1 hk with rfl | hk
  ·omega
  ·have:=sum_map_mem (f:=f) hk;omega
section
variable (cost:List Nat)
def packOf(f:Nat→Option Nat)(p:NPack):Option Nat:=p.kids.foldl (fun a k=>addO a (f k)) (cost[p.rule]?)
def nodeOf(f:Nat→Option Nat)(x:Node):Option Nat:=x.packs.foldl (fun s p=>minO s (packOf cost f p)) none
theorem foldA_iff(f:Nat→Option Nat):∀(l:List Nat) (a:Option Nat) (y:Nat),l.foldl (fun a k=>addO a (f k)) a=some y↔∃c,a=some c∧(∀k∈l,∃z,f k=some z)∧y=c+(l.map fun k=>(f k).getD 0).sum
 | [],a,y=>by
  simp only[List.foldl_nil,List.map_nil,List.sum_nil,Nat.add_zero]
  constructor
  ·intro h;exact⟨y,h,fun k hk=>(by cases hk),rfl⟩
  ·rintro⟨c,h,_,rfl⟩;exact h
 | k::l,a,y=>by
  rw[List.foldl_cons,foldA_iff f l]
  constructor
  ·rintro⟨c,h1,h2,rfl⟩
   cases a with
   | none=>cases h1
   | some b=>
    cases hk:f k with
    | none=>rw[hk] at h1;cases h1
    | some z=>
     rw[hk] at h1
     have h1:b+z=c:=Option.some.inj h1
     refine⟨b,rfl,fun q hq=>?_,by rw[List.map_cons,List.sum_cons,hk];show _=b+(z+_);omega⟩
     rcases List.mem_cons.1 hq with rfl | hq
     ·exact⟨z,hk⟩
     ·exact h2 q hq
  ·rintro⟨c,rfl,h2,rfl⟩
   obtain⟨z,hk⟩:=h2 k me
   refine⟨c+z,by rw[hk];rfl,fun q hq=>h2 q (List.mem_cons_of_mem _ hq),?_⟩
   rw[List.map_cons,List.sum_cons,hk];show c+(z+_)=_;omega
theorem packOf_iff{f:Nat→Option Nat}{p:NPack}{y:Nat}:packOf cost f p=some y↔∃c,cost[p.rule]?=some c∧(∀k∈p.kids,∃z,f k=some z)∧y=c+(p.kids.map fun k=>(f k).getD 0).sum:=
 foldA_iff f _ _ _
theorem packOf_mono{f h:Nat→Option Nat}{p:NPack}(hl:∀k∈p.kids,LeO (f k) (h k)):LeO (packOf cost f p) (packOf cost h p):=fun y e=>by
 obtain⟨c,h1,h2,rfl⟩:=(packOf_iff cost).1 e
 refine⟨_,(packOf_iff cost).2 ⟨c,h1,fun k hk=>?_,rfl⟩,Nat.add_le_add_left (sum_map_le fun k hk=>?_) _⟩
 ·obtain⟨z,hz⟩:=h2 k hk
  obtain⟨x,hx,_⟩:=hl k hk z hz
  exact⟨x,hx⟩
 ·obtain⟨z,hz⟩:=h2 k hk
  obtain⟨x,hx,hxz⟩:=hl k hk z hz
  rw[hx,hz];exact hxz
theorem foldM_le(F:NPack→Option Nat):∀(l:List NPack) (a:Option Nat),LeO (l.foldl (fun s p=>minO s (F p)) a) a∧∀p∈l,LeO (l.foldl (fun s p=>minO s (F p)) a) (F p)
 | [],a=>⟨LeO.refl _,fun p hp=>(by cases hp)⟩
 | q::l,a=>by
  obtain⟨h1,h2⟩:=foldM_le F l (minO a (F q))
  refine⟨h1.trans (minO_left _ _),fun p hp=>?_⟩
  rcases List.mem_cons.1 hp with rfl | hp
  ·exact h1.trans (minO_right _ _)
  ·exact h2 p hp
theorem foldM_at(F:NPack→Option Nat):∀(l:List NPack) (a:Option Nat) (y:Nat),l.foldl (fun s p=>minO s (F p)) a=some y→a=some y∨∃p∈l,F p=some y
 | [],a,y,h=>.inl h
 | q::l,a,y,h=>by
  rcases foldM_at F l _ y h with h1 | ⟨p,hp,h1⟩
  ·have h1:minO a (F q)=some y:=h1
   rcases minO_or a (F q) with e | e
   ·rw[e] at h1;exact .inl h1
   ·rw[e] at h1;exact .inr ⟨q,List.mem_cons_self ..,h1⟩
  ·exact .inr ⟨p,List.mem_cons_of_mem _ hp,h1⟩
theorem nodeOf_le{f:Nat→Option Nat}{x:Node}{p:NPack}(hp:p∈x.packs):LeO (nodeOf cost f x) (packOf cost f p):=(foldM_le _ _ _).2 p hp
theorem nodeOf_at{f:Nat→Option Nat}{x:Node}{y:Nat}(h:nodeOf cost f x=some y):∃p∈x.packs,packOf cost f p=some y:=by
 rcases foldM_at _ _ _ _ h with h1 | h1
 ·cases h1
 ·exact h1
theorem nodeOf_mono{f h:Nat→Option Nat}{x:Node}(hl:∀p∈x.packs,∀k∈p.kids,LeO (f k) (h k)):LeO (nodeOf cost f x) (nodeOf cost h x):=fun y e=>by
 obtain⟨p,hp,h1⟩:=nodeOf_at cost e
 exact((nodeOf_le cost hp).trans (packOf_mono cost (hl p hp))) y h1
def depO(Ns:List Node):Nat→Nat→Option Nat
 | 0,u=>match Ns[u]? with
  | some x=>leafO x
  | none=>none
 | d+1,u=>match Ns[u]? with
  | some x=>if x.key.sym.term=true then some 0 else nodeOf cost (depO Ns d) x
  | none=>none
variable {Ns:List Node}
theorem depO_none{d u:Nat}(h:Ns[u]?=none):depO cost Ns d u=none:=by cases d<;>rw[depO,h]
theorem depO_term{d u:Nat}{x:Node}(h:Ns[u]?=some x)(ht:x.key.sym.term=true):depO cost Ns d u=some 0:=by
 cases d with
 | zero=>rw[depO,h];simp only[leafO];rw[if_pos ht]
 | succ d=>rw[depO,h];simp only;rw[if_pos ht]
theorem depO_zero{u:Nat}{x:Node}(h:Ns[u]?=some x)(ht:x.key.sym.term=false):depO cost Ns 0 u=none:=by
 rw[depO,h];simp only[leafO];rw[if_neg (by simp[ht])]
theorem depO_at{d u:Nat}{x:Node}(h:Ns[u]?=some x)(ht:x.key.sym.term=false):depO cost Ns (d+1) u=nodeOf cost (depO cost Ns d) x:=by
 rw[depO,h];simp only;rw[if_neg (by simp[ht])]
theorem depO_mono:∀(d u:Nat),LeO (depO cost Ns (d+1) u) (depO cost Ns d u)
 | d,u=>by
  cases hx:Ns[u]? with
  | none=>rw[depO_none cost hx,depO_none cost hx];exact LeO.refl _
  | some x=>
   cases ht:x.key.sym.term with
   | true=>rw[depO_term cost hx ht,depO_term cost hx ht];exact LeO.refl _
   | false=>
    cases d with
    | zero=>rw[depO_zero cost hx ht];exact LeO.none _
    | succ d=>rw[depO_at cost hx ht,depO_at cost hx ht];exact nodeOf_mono cost fun p hp k hk=>depO_mono d k
theorem depO_le{d e u:Nat}(h:d≤e):LeO (depO cost Ns e u) (depO cost Ns d u):=by
 induction h with
 | refl=>exact LeO.refl _
 | step _ ih=>exact(depO_mono cost _ u).trans ih
theorem fall_chain:∀(d u:Nat),¬LeO (depO cost Ns d u) (depO cost Ns (d+1) u)→∃l:List Nat,l.length=d+1∧l.Nodup∧∀z∈l,z<Ns.length∧∃e,e≤d∧¬LeO (depO cost Ns e z) (depO cost Ns (e+1) z)∧LeO (depO cost Ns (e+1) z) (depO cost Ns (d+1) u)
 | d,u,h=>by
  obtain⟨x,hx⟩:∃x,Ns[u]?=some x:=by
   cases hx:Ns[u]? with
   | none=>rw[depO_none cost hx] at h;exact absurd (LeO.none _) (by rw[depO_none cost hx] at h;exact h)
   | some x=>exact⟨x,rfl⟩
  have hu:=(gS hx).1
  have ht:x.key.sym.term=false:=by
   cases ht:x.key.sym.term with
   | true=>rw[depO_term cost hx ht,depO_term cost hx ht] at h;exact absurd (LeO.refl _) h
   | false=>rfl
  cases d with
  | zero=>exact⟨[u],rfl,by simp,fun z hz=>by rw[List.mem_singleton.1 hz];exact⟨hu,0,Nat.le_refl _,h,LeO.refl _⟩⟩
  | succ d=>
   rcases Option.eq_none_or_eq_some (depO cost Ns (d+1+1) u) with hy | ⟨y,hy⟩
   ·rw[hy] at h;exact absurd (LeO.none _) h
   ·have hy2:=hy
    rw[depO_at cost hx ht] at hy2
    obtain⟨p,hp,hpy⟩:=nodeOf_at cost hy2
    obtain⟨k,hk,hkd⟩:∃k∈p.kids,¬LeO (depO cost Ns d k) (depO cost Ns (d+1) k):=by
     rcases Classical.em (∃k∈p.kids,¬LeO (depO cost Ns d k) (depO cost Ns (d+1) k)) with h1 | h1
     ·exact h1
     ·exfalso
      apply h
      rw[hy,←hpy,depO_at cost hx ht]
      refine(nodeOf_le cost hp).trans (packOf_mono cost fun k hk=>?_)
      rcases Classical.em (LeO (depO cost Ns d k) (depO cost Ns (d+1) k)) with h2 | h2
      ·exact h2
      ·exact absurd ⟨k,hk,h2⟩ h1
    have hky:LeO (depO cost Ns (d+1) k) (depO cost Ns (d+1+1) u):=by
     rw[hy]
     obtain⟨c,h1,h2,rfl⟩:=(packOf_iff cost).1 hpy
     obtain⟨z,hz⟩:=h2 k hk
     rw[hz]
     refine LeO.of_some ?_
     have:=sum_map_mem (f:=fun k=>(depO cost Ns (d+1) k).getD 0) hk
     simp only[hz,Option.getD_some] at this
     omega
    obtain⟨l,h1,h2,h3⟩:=fall_chain d k hkd
    refine⟨u::l,by simp[h1],List.nodup_cons.2 ⟨fun hm=>?_,h2⟩,fun z hz=>?_⟩
    ·obtain⟨_,e,he,h4,h5⟩:=h3 u hm
     exact h (((depO_le cost (show e+1≤d+1 by omega)).trans h5).trans hky)
    ·rcases List.mem_cons.1 hz with rfl | hz
     ·exact⟨hu,d+1,Nat.le_refl _,h,LeO.refl _⟩
     ·obtain⟨h4,e,he,h5,h6⟩:=h3 z hz
      exact⟨h4,e,by omega,h5,h6.trans hky⟩
theorem depO_stop{d u:Nat}(hd:Ns.length≤d):depO cost Ns (d+1) u=depO cost Ns d u:=by
 rcases Classical.em (LeO (depO cost Ns d u) (depO cost Ns (d+1) u)) with h | h
 ·exact(depO_mono cost d u).eq h
 ·obtain⟨l,h1,h2,h3⟩:=fall_chain cost d u h
  have:=nodup_lt Ns.length l h2 fun z hz=>(h3 z hz).1
  omega
theorem depO_lim{u:Nat}:∀(e:Nat),depO cost Ns (Ns.length+e) u=depO cost Ns Ns.length u
 | 0=>rfl
 | e+1=>by rw[←Nat.add_assoc,depO_stop cost zo,depO_lim e]
structure BetwO(Ns:List Node)(k i:Nat)(cur:List (Option Nat)):Prop where
 len:cur.length=Ns.length
 lo:∀u,LeO (depO cost Ns Ns.length u) (valO cur u)
 up:∀u,LeO (valO cur u) (depO cost Ns k u)
 up2:∀u,u<i→LeO (valO cur u) (depO cost Ns (k+1) u)
theorem valO_set_ne{vs:List (Option Nat)}{i u:Nat}{z:Option Nat}(h:u≠i):valO (vs.set i z) u=valO vs u:=by unfold valO;rw[List.getElem?_set_ne (Ne.symm h)]
theorem valO_set{vs:List (Option Nat)}{i:Nat}{z:Option Nat}(h:i<vs.length):valO (vs.set i z) i=z:=by unfold valO;rw[List.getElem?_set_self h];rfl
theorem BetwO.step{k i:Nat}{cur:List (Option Nat)}(h:BetwO cost Ns k i cur)(hi:i<Ns.length):BetwO cost Ns k (i+1) (stepO cost Ns cur i):=by
 obtain⟨x,hx⟩:∃x,Ns[i]?=some x:=⟨_,gE hi⟩
 cases ht:x.key.sym.term with
 | true=>
  have e:stepO cost Ns cur i=cur:=by unfold stepO;rw[hx];simp only;rw[if_pos ht]
  rw[e]
  refine⟨h.len,h.lo,h.up,fun u hu=>?_⟩
  rcases Nat.lt_or_ge u i with h1 | h1
  ·exact h.up2 u h1
  ·obtain rfl:u=i:=by omega
   rw[depO_term cost hx ht,←depO_term cost (d:=k) hx ht]
   exact h.up u
 | false=>
  have e:stepO cost Ns cur i=cur.set i (nodeOf cost (valO cur) x):=by unfold stepO;rw[hx];simp only;rw[if_neg (by simp[ht])];rfl
  rw[e]
  have hil:i<cur.length:=by rw[h.len];exact hi
  have hi2:LeO (nodeOf cost (valO cur) x) (depO cost Ns (k+1) i):=by
   rw[depO_at cost hx ht];exact nodeOf_mono cost fun p hp q hq=>h.up q
  refine⟨by rw[List.length_set];exact h.len,fun u=>?_,fun u=>?_,fun u hu=>?_⟩
  ·by_cases hui:u=i
   ·subst hui
    rw[valO_set hil,←depO_stop cost (Nat.le_refl _),depO_at cost hx ht]
    exact nodeOf_mono cost fun p hp q hq=>h.lo q
   ·rw[valO_set_ne hui];exact h.lo u
  ·by_cases hui:u=i
   ·subst hui
    rw[valO_set hil]
    exact hi2.trans (depO_mono cost k u)
   ·rw[valO_set_ne hui];exact h.up u
  ·by_cases hui:u=i
   ·subst hui
    rw[valO_set hil]
    exact hi2
   ·rw[valO_set_ne hui];exact h.up2 u zo
theorem BetwO.round{k:Nat}{vs:List (Option Nat)}(h:BetwO cost Ns k 0 vs):∀i,i≤Ns.length→BetwO cost Ns k i (roundToO cost Ns vs i)
 | 0,_=>h
 | i+1,hi=>(BetwO.round h i zo).step cost zo
theorem betwO_at:∀k,BetwO cost Ns k 0 (valsO cost Ns k)
 | 0=>by
  have e:∀u,valO (valsO cost Ns 0) u=depO cost Ns 0 u:=fun u=>by
   unfold valO valsO startO
   rw[List.getElem?_map,depO]
   cases Ns[u]?<;>rfl
  refine⟨valsO_len 0,fun u=>?_,fun u=>?_,fun u hu=>absurd hu (Nat.not_lt_zero _)⟩
  ·rw[e];exact depO_le cost (Nat.zero_le _)
  ·rw[e];exact LeO.refl _
 | k+1=>by
  have h:=BetwO.round cost (betwO_at k) Ns.length (Nat.le_refl _)
  refine⟨h.len,h.lo,fun u=>?_,fun u hu=>absurd hu (Nat.not_lt_zero _)⟩
  rcases Nat.lt_or_ge u Ns.length with h1 | h1
  ·exact h.up2 u h1
  ·rw[depO_none cost (List.getElem?_eq_none h1)];exact LeO.none _
theorem valsO_lim{k:Nat}(hk:Ns.length≤k)(u:Nat):valO (valsO cost Ns k) u=depO cost Ns Ns.length u:=by
 have h:=betwO_at cost (Ns:=Ns) k
 have e:depO cost Ns k u=depO cost Ns Ns.length u:=by
  have:=depO_lim cost (Ns:=Ns) (u:=u) (k-Ns.length)
  rwa [show Ns.length+(k-Ns.length)=k by omega] at this
 have:=h.up u
 rw[e] at this
 exact this.eq (h.lo u)
theorem valsO_stop{k:Nat}(hk:Ns.length≤k):valsO cost Ns (k+1)=valsO cost Ns k:=by
 refine List.ext_getElem? fun u=>?_
 have h1:=valsO_lim cost (Ns:=Ns) hk u
 have h2:=valsO_lim cost (Ns:=Ns) (show Ns.length≤k+1 by omega) u
 have l1:=valsO_len (cost:=cost) (Ns:=Ns) k
 have l2:=valsO_len (cost:=cost) (Ns:=Ns) (k+1)
 rcases Nat.lt_or_ge u Ns.length with hu | hu
 ·have g1:=gE (l:=valsO cost Ns k) (i:=u) zo
  have g2:=gE (l:=valsO cost Ns (k+1)) (i:=u) zo
  unfold valO at h1 h2
  rw[g1] at h1
  rw[g2] at h2
  rw[g1,g2]
  simp only[Option.getD_some] at h1 h2
  rw[h1,h2]
 ·rw[List.getElem?_eq_none zo,List.getElem?_eq_none zo]
theorem valsO_same{k:Nat}(h:valsO cost Ns (k+1)=valsO cost Ns k):∀e,valsO cost Ns (k+e)=valsO cost Ns k
 | 0=>rfl
 | e+1=>by
  show roundToO cost Ns (valsO cost Ns (k+e)) Ns.length=_
  rw[valsO_same h e];exact h
theorem valsO_end{k:Nat}(h:valsO cost Ns (k+1)=valsO cost Ns k)(u:Nat):valO (valsO cost Ns k) u=depO cost Ns Ns.length u:=by
 rw[←valsO_same cost h Ns.length]
 exact valsO_lim cost zo u
end
end Go.Proofs.D