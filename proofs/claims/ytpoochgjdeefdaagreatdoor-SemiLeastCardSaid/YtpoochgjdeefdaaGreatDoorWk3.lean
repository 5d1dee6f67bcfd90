/-
  Walks: what functions of the program do, over the abstract machine.
-/
import Derived.Test.YtpoochgjdeefdaaGreatDoorWk2
set_option linter.unusedVariables false
set_option maxRecDepth 20000
set_option maxHeartbeats 0
open Go Go.Abs Go.Proofs Go.Proofs.D
namespace Go.Proofs.D
section
variable {Ns:List Node}(hkid:∀u v,Kid Ns u v→u<Ns.length)(hac:∀u,u<Ns.length→¬Path Ns u u)
include hkid hac
theorem deep_chain:∀(d u:Nat),u<Ns.length→nodeT Ns (d+1) u≠nodeT Ns d u→∃l:List Nat,l.length=d+1∧l.Nodup∧∀x∈l,x<Ns.length∧(x=u∨Path Ns u x)
 | 0,u,hu,_=>⟨[u],rfl,by simp,fun x hx=>by simp only[List.mem_cons,List.not_mem_nil,or_false] at hx;subst hx;exact⟨hu,.inl rfl⟩⟩
 | d+1,u,hu,h=>by
  obtain⟨x,hx⟩:∃x,Ns[u]?=some x:=⟨_,gE hu⟩
  have hk:∃k,Kid Ns k u∧nodeT Ns (d+1) k≠nodeT Ns d k:=by
   refine Classical.byContradiction fun hno=>h ?_
   show nodeT Ns (d+1+1) u=nodeT Ns (d+1) u
   rw[nodeT,nodeT,hx]
   simp only
   congr 2
   apply List.map_congr_left
   intro p hp
   unfold packN
   congr 1
   apply List.map_congr_left
   intro k hk
   exact Classical.byContradiction fun h1=>hno ⟨k,⟨x,p,hx,hp,hk⟩,h1⟩
  obtain⟨k,hk,hd⟩:=hk
  obtain⟨l,h1,h2,h3⟩:=deep_chain d k (hkid k u hk) hd
  have hp:∀y∈l,Path Ns u y:=fun y hy=>by
   rcases (h3 y hy).2 with rfl | h4
   ·exact .one hk
   ·exact Path.trans (.one hk) h4
  refine⟨u::l,by simp[h1],?_,fun y hy=>?_⟩
  ·rw[List.nodup_cons]
   exact⟨fun hm=>hac u hu (hp u hm),h2⟩
  ·rcases List.mem_cons.1 hy with rfl | hy
   ·exact⟨hu,.inl rfl⟩
   ·exact⟨(h3 y hy).1,.inr (hp y hy)⟩
theorem deep_still{d u:Nat}(hd:Ns.length≤d)(hu:u<Ns.length):nodeT Ns (d+1) u=nodeT Ns d u:=
 Classical.byContradiction fun h=>by
  obtain⟨l,h1,h2,h3⟩:=deep_chain hkid hac d u hu h
  have:=nodup_lt Ns.length l h2 (fun x hx=>(h3 x hx).1)
  omega
end
theorem sat_mul(a b:Nat):min (min a MAXC*b) MAXC=min (a*b) MAXC:=by
 have h:=min_mul (min a MAXC) b
 rw[Nat.min_eq_left (Nat.min_le_right a MAXC),min_mul a b] at h
 exact h.symm
def cntP(a b:Nat):Nat:=min (a+b) MAXC
def cntT(a b:Nat):Nat:=min (a*b) MAXC
theorem fold_mul(f:Nat→Nat):∀(l:List Nat) (x:Nat),l.foldl (fun x k=>cntT x (f k)) (min x MAXC)=min (x*prodN (l.map f)) MAXC
 | [],x=>by simp[prodN]
 | k::l,x=>by
  rw[List.foldl_cons]
  show l.foldl _ (cntT (min x MAXC) (f k))=_
  unfold cntT
  rw[sat_mul]
  have:=fold_mul f l (x*f k)
  unfold cntT at this
  rw[this,Nat.mul_assoc]
  rfl
theorem fold_add(f:NPack→Nat):∀(l:List NPack) (x:Nat),l.foldl (fun s p=>cntP s (min (f p) MAXC)) (min x MAXC)=min (x+(l.map f).sum) MAXC
 | [],x=>by simp
 | p::l,x=>by
  rw[List.foldl_cons]
  show l.foldl _ (cntP (min x MAXC) (min (f p) MAXC))=_
  have e:cntP (min x MAXC) (min (f p) MAXC)=min (x+f p) MAXC:=min_add _ _
  rw[e,fold_add f l (x+f p),List.map_cons,List.sum_cons,Nat.add_assoc]
def overN(f:Nat→Nat)(x:Node):Nat:=(x.packs.map (packN f)).sum
structure IsCnt(r:RingI):Prop where
 P:r.P=cntP
 T:r.T=cntT
 R:r.R=fun _=>1
 M:r.M=MAXC
theorem nodeV_cnt{r:RingI}(hr:IsCnt r)(vs:List Nat)(x:Node):nodeV r vs x=min (overN (valAt vs) x) MAXC:=by
 have h1:∀p,packV r vs p=min (packN (valAt vs) p) MAXC:=fun p=>by
  unfold packV packN
  rw[hr.T,hr.R]
  have:=fold_mul (valAt vs) p.kids 1
  rw[Nat.one_mul] at this
  exact this
 unfold nodeV overN
 rw[hr.P,show (fun s p=>cntP s (packV r vs p))=fun s p=>cntP s (min (packN (valAt vs) p) MAXC) from funext fun s=>funext fun p=>by rw[h1 p]]
 have:=fold_add (packN (valAt vs)) x.packs 0
 rw[Nat.zero_add] at this
 exact this
theorem overN_le{f h:Nat→Nat}{x:Node}(hf:∀p∈x.packs,∀k∈p.kids,f k≤h k):overN f x≤overN h x:=by
 unfold overN
 refine sumN_le _ fun p hp=>?_
 unfold packN
 exact prodN_le _ fun k hk=>hf p hp k hk
theorem prodN_sat(f:Nat→Nat):∀(l:List Nat),min (prodN (l.map fun k=>min (f k) MAXC)) MAXC=min (prodN (l.map f)) MAXC
 | []=>rfl
 | k::l=>by
  show min (min (f k) MAXC*prodN (l.map fun k=>min (f k) MAXC)) MAXC=min (f k*prodN (l.map f)) MAXC
  rw[sat_mul,←min_mul,prodN_sat f l,min_mul]
theorem overN_sat(f:Nat→Nat)(x:Node):min (overN (fun k=>min (f k) MAXC) x) MAXC=min (overN f x) MAXC:=by
 unfold overN
 have:∀l:List NPack,min (l.map (packN fun k=>min (f k) MAXC)).sum MAXC=min (l.map (packN f)).sum MAXC:=fun l=>by
  induction l with
  | nil=>rfl
  | cons p l ih=>
   rw[List.map_cons,List.map_cons,List.sum_cons,List.sum_cons,←min_add,ih]
   have e:min (packN (fun k=>min (f k) MAXC) p) MAXC=min (packN f p) MAXC:=prodN_sat f p.kids
   rw[e,min_add]
 exact this _
structure Leafy(Ns:List Node):Prop where
 kid:∀u v,Kid Ns u v→u<Ns.length
 leaf:∀(u:Nat) (x:Node),Ns[u]?=some x→x.key.sym.term=true→x.packs=[]
structure Betw(Ns:List Node)(D k i:Nat)(cur:List Nat):Prop where
 len:cur.length=Ns.length
 low:∀u,u<Ns.length→min (nodeT Ns k u) MAXC≤valAt cur u
 low':∀u,u<i→u<Ns.length→min (nodeT Ns (k+1) u) MAXC≤valAt cur u
 up:∀u,valAt cur u≤min (nodeT Ns D u) MAXC
 leaf:∀(u:Nat) (x:Node),Ns[u]?=some x→x.key.sym.term=true→valAt cur u=1
theorem node_at{Ns:List Node}{u:Nat}{x:Node}(hx:Ns[u]?=some x)(d:Nat):nodeT Ns (d+1) u=leafN x+overN (nodeT Ns d) x:=by
 rw[nodeT,hx];rfl
theorem valAt_set_ne{vs:List Nat}{i u z:Nat}(h:u≠i):valAt (vs.set i z) u=valAt vs u:=by unfold valAt;rw[List.getElem?_set_ne (Ne.symm h)]
theorem valAt_set{vs:List Nat}{i z:Nat}(h:i<vs.length):valAt (vs.set i z) i=z:=by unfold valAt;rw[List.getElem?_set_self h];rfl
theorem Betw.step{Ns:List Node}(hl:Leafy Ns){r:RingI}(hr:IsCnt r){D k i:Nat}(hD:∀u,u<Ns.length→nodeT Ns (D+1) u=nodeT Ns D u)(hi:i<Ns.length){cur:List Nat}(h:Betw Ns D k i cur):Betw Ns D k (i+1) (stepV r Ns cur i):=by
 obtain⟨x,hx⟩:∃x,Ns[i]?=some x:=⟨_,gE hi⟩
 unfold stepV
 rw[hx]
 simp only
 by_cases ht:x.key.sym.term=true
 ·rw[if_pos ht]
  refine⟨h.len,h.low,fun u hu hun=>?_,h.up,h.leaf⟩
  by_cases e:u=i
  ·subst e
   rw[h.leaf u x hx ht,node_at hx]
   unfold leafN overN
   rw[if_pos ht,hl.leaf u x hx ht]
   exact Nat.min_le_left _ _
  ·exact h.low' u zo hun
 ·rw[if_neg ht]
  have hlen:i<cur.length:=by rw[h.len];exact hi
  have h0:leafN x=0:=by unfold leafN;rw[if_neg ht]
  have hk:∀p∈x.packs,∀k∈p.kids,k<Ns.length:=fun p hp k hk=>hl.kid k i ⟨x,p,hx,hp,hk⟩
  have hv:=nodeV_cnt hr cur x
  have hlow:min (nodeT Ns (k+1) i) MAXC≤nodeV r cur x:=by
   rw[hv,node_at hx,h0,Nat.zero_add,←overN_sat]
   have:=overN_le (f:=fun u=>min (nodeT Ns k u) MAXC) (h:=valAt cur) (x:=x) (fun p hp u hu=>h.low u (hk p hp u hu))
   omega
  have hup:nodeV r cur x≤min (nodeT Ns D i) MAXC:=by
   rw[hv,←hD i hi,node_at hx,h0,Nat.zero_add,←overN_sat (nodeT Ns D)]
   have:=overN_le (f:=valAt cur) (h:=fun u=>min (nodeT Ns D u) MAXC) (x:=x) (fun p hp u hu=>h.up u)
   omega
  refine⟨by simp[h.len],fun u hu=>?_,fun u hu hun=>?_,fun u=>?_,fun u y hy hty=>?_⟩
  ·by_cases e:u=i
   ·subst e
    rw[valAt_set hlen]
    have:=nodeT_mono Ns k u
    omega
   ·rw[valAt_set_ne e];exact h.low u hu
  ·by_cases e:u=i
   ·subst e;rw[valAt_set hlen];exact hlow
   ·rw[valAt_set_ne e];exact h.low' u zo hun
  ·by_cases e:u=i
   ·subst e;rw[valAt_set hlen];exact hup
   ·rw[valAt_set_ne e];exact h.up u
  ·have e:u≠i:=by rintro rfl;rw[hx] at hy;cases hy;exact ht hty
   rw[valAt_set_ne e];exact h.leaf u y hy hty
theorem Betw.round{Ns:List Node}(hl:Leafy Ns){r:RingI}(hr:IsCnt r){D k:Nat}(hD:∀u,u<Ns.length→nodeT Ns (D+1) u=nodeT Ns D u){vs:List Nat}(h:Betw Ns D k 0 vs):∀i,i≤Ns.length→Betw Ns D k i (roundTo r Ns vs i)
 | 0,_=>h
 | i+1,hi=>(Betw.round hl hr hD h i zo).step hl hr hD zo
theorem betw_at{Ns:List Node}(hl:Leafy Ns){r:RingI}(hr:IsCnt r){D:Nat}(hD1:1≤D)(hD:∀u,u<Ns.length→nodeT Ns (D+1) u=nodeT Ns D u):∀k,Betw Ns D k 0 (valsAt r Ns k)
 | 0=>by
  have at_:∀u x,Ns[u]?=some x→valAt (startV Ns) u=leafN x:=fun u x hx=>by unfold valAt startV;rw[List.getElem?_map,hx];rfl
  refine⟨by simp[valsAt,startV],fun u hu=>?_,fun u hu=>absurd hu (Nat.not_lt_zero _),fun u=>?_,fun u x hx ht=>?_⟩
  ·show min 0 MAXC≤_;omega
  ·show valAt (startV Ns) u≤_
   cases hx:Ns[u]? with
   | none=>unfold valAt startV;rw[List.getElem?_map,hx];exact Nat.zero_le _
   | some x=>
    rw[at_ u x hx]
    obtain⟨d,rfl⟩:∃d,D=d+1:=⟨D-1,by omega⟩
    rw[node_at hx]
    have:leafN x≤1:=by unfold leafN;split<;>omega
    have:MAXC=1000000000:=rfl
    omega
  ·show valAt (startV Ns) u=1
   rw[at_ u x hx];unfold leafN;rw[if_pos ht]
 | k+1=>by
  have h:=Betw.round hl hr hD (betw_at hl hr hD1 hD k) Ns.length (Nat.le_refl _)
  exact⟨h.len,fun u hu=>h.low' u hu hu,fun u hu=>absurd hu (Nat.not_lt_zero _),h.up,h.leaf⟩
theorem vals_lim{Ns:List Node}(hl:Leafy Ns){r:RingI}(hr:IsCnt r){D:Nat}(hD1:1≤D)(hD:∀u,u<Ns.length→nodeT Ns (D+1) u=nodeT Ns D u){u:Nat}(hu:u<Ns.length):valAt (valsAt r Ns D) u=min (nodeT Ns D u) MAXC:=by
 have h:=betw_at hl hr hD1 hD D
 have:=h.low u hu
 have:=h.up u
 omega
theorem vals_stop{Ns:List Node}(hl:Leafy Ns){r:RingI}(hr:IsCnt r){D:Nat}(hD1:1≤D)(hD:∀u,u<Ns.length→nodeT Ns (D+1) u=nodeT Ns D u):valsAt r Ns (D+1)=valsAt r Ns D:=by
 refine List.ext_getElem? fun u=>?_
 rcases Nat.lt_or_ge u Ns.length with hu | hu
 ·have h1:=vals_lim hl hr hD1 hD hu
  have h:=betw_at hl hr hD1 hD (D+1)
  have h2:=h.low u hu
  have h3:=h.up u
  rw[hD u hu] at h2
  have e:valAt (valsAt r Ns (D+1)) u=valAt (valsAt r Ns D) u:=by omega
  unfold valAt at e
  rw[gE (by rw[valsAt_len];exact hu),gE (by rw[valsAt_len];exact hu)] at e ⊢
  simpa using e
 ·rw[List.getElem?_eq_none_iff.2 (by rw[valsAt_len];exact hu),List.getElem?_eq_none_iff.2 (by rw[valsAt_len];exact hu)]
theorem vals_same{r:RingI}{Ns:List Node}{k:Nat}(h:valsAt r Ns (k+1)=valsAt r Ns k):∀e,valsAt r Ns (k+e)=valsAt r Ns k
 | 0=>rfl
 | e+1=>by
  have:=vals_same h e
  show roundV r Ns (valsAt r Ns (k+e))=_
  rw[this];exact h
theorem value_cnt{Ns:List Node}(hl:Leafy Ns){r:RingI}(hr:IsCnt r)(hac:∀u,u<Ns.length→¬Path Ns u u)(hfew:Ns.length≤150){root:Nat}(hroot:root<Ns.length){v:Value}(h:ValueRes r Ns root v) :
  v=.tuple ⟨[ci (min (nodeT Ns Ns.length root) MAXC),.int .i64 0]⟩:=by
 have hD:∀u,u<Ns.length→nodeT Ns (Ns.length+1) u=nodeT Ns Ns.length u:=fun u hu=>deep_still hl.kid hac (Nat.le_refl _) hu
 have hst:=vals_stop hl hr zo hD
 rcases h with ⟨k,y,hk,hs,hy,rfl⟩ | ⟨hno,_⟩
 ·have e:valsAt r Ns k=valsAt r Ns Ns.length:=by
   rcases Nat.le_total k Ns.length with h1 | h1
   ·have:=vals_same hs (Ns.length-k)
    rw[show k+(Ns.length-k)=Ns.length by omega] at this
    exact this.symm
   ·have:=vals_same hst (k-Ns.length)
    rw[show Ns.length+(k-Ns.length)=k by omega] at this
    exact this
  have h2:=vals_lim hl hr zo hD hroot
  rw[←e] at h2
  unfold valAt at h2
  rw[hy] at h2
  have h2:y=_:=h2
  rw[h2]
 ·exact absurd hst (hno _ zo)
section
variable {g:Gram}(hg:Valid g){w:List Nat}{E:List (List Nat)}(hE:EndsOf g w E){S:List Key}(hK:Keys g w E (rootKey g w) S)(hst:stepB w E ⟨false,g.start⟩ 0 w.length=true)
include hg hE hK hst
theorem own_leafy(hw:w.length≤12):Leafy (S.map (mkNode g w E S)) where
 kid:=(nodes_ok hg hw hK (root_good hg w)).kid
 leaf:=fun u x hx ht=>by
  rw[List.getElem?_map] at hx
  cases hk:S[u]? with
  | none=>rw[hk] at hx;cases hx
  | some k=>
   rw[hk] at hx
   obtain rfl:=Option.some.inj hx
   exact((node_shape hg hE hK (root_good hg w) hst (gM hk)).term ht).2.2.2
omit hg hE hst in
def spanN(i j:Nat):Nat:=[0,1,3,6,10,15,21].getD j 0+i
omit hg hE hK hst in
theorem spanN_inj0:∀j q i p:Fin 7,i.1≤j.1→p.1≤q.1→spanN i.1 j.1=spanN p.1 q.1→i.1=p.1∧j.1=q.1:=by decide
omit hg hE hK hst in
theorem spanN_inj:∀j,j<7→∀i,i<j+1→∀q,q<7→∀p,p<q+1→spanN i j=spanN p q→i=p∧j=q:=fun j hj i hi q hq p hp h=>spanN_inj0 ⟨j,hj⟩ ⟨q,hq⟩ ⟨i,by omega⟩ ⟨p,by omega⟩ (by show i≤j;omega) (by show p≤q;omega) h
omit hg hE hK hst in
theorem spanN_lt0:∀j i:Fin 7,i.1≤j.1→spanN i.1 j.1<28:=by decide
omit hg hE hK hst in
theorem spanN_lt:∀j,j<7→∀i,i<j+1→spanN i j<28:=fun j hj i hi=>spanN_lt0 ⟨j,hj⟩ ⟨i,by omega⟩ (by show i≤j;omega)
def keyN(k:Key):Nat:=if k.sym.term=true then 112+k.frm else k.sym.n*28+spanN k.frm k.to
theorem own_few(hn4:g.nons≤4)(hw:w.length≤6):(S.map (mkNode g w E S)).length≤150:=by
 rw[List.length_map]
 have info:∀k∈S,k.frm≤k.to∧k.to≤6∧(k.sym.term=true→k.to=k.frm+1∧w[k.frm]?=some k.sym.n)∧(k.sym.term=false→k.sym.n<4):=fun k hk=>by
  have hgood:=(hK.reach k hk).good hg (root_good hg w)
  have hd:=(step_der hE hgood.2.1).1 ((hK.reach k hk).step (root:=rootKey g w) hst)
  have hs:=node_shape hg hE hK (root_good hg w) hst hk
  refine⟨der_le hd,by have:=hgood.2.2;omega,fun ht=>⟨(hs.term ht).1,(hs.term ht).2.2.1⟩,fun ht=>?_⟩
  have:=hgood.1
  unfold SymOk at this
  rw[if_neg (by simp[ht])] at this
  omega
 have h:=nodup_lt 118 (S.map keyN) ?_ ?_
 ·rw[List.length_map] at h;omega
 ·rw[List.nodup_iff_pairwise_ne,List.pairwise_map]
  refine(List.nodup_iff_pairwise_ne.1 hK.nodup).imp_of_mem ?_
  intro a b ha hb hne he
  apply hne
  obtain⟨a1,a2,a3,a4⟩:=info a ha
  obtain⟨b1,b2,b3,b4⟩:=info b hb
  have la:=spanN_lt a.to zo a.frm zo
  have lb:=spanN_lt b.to zo b.frm zo
  have inj:=spanN_inj a.to zo a.frm zo b.to zo b.frm zo
  obtain⟨⟨ta,na⟩,fa,oa⟩:=a
  obtain⟨⟨tb,nb⟩,fb,ob⟩:=b
  unfold keyN at he
  simp only at *
  cases ta with
  | true=>
   obtain⟨a5,a6⟩:=a3 rfl
   cases tb with
   | true=>
    obtain⟨b5,b6⟩:=b3 rfl
    simp only[if_true] at he
    obtain rfl:fa=fb:=by omega
    obtain rfl:na=nb:=by rw[a6] at b6;exact Option.some.inj b6
    obtain rfl:oa=ob:=by omega
    rfl
   | false=>
    have:=b4 rfl
    simp only[if_true,Bool.false_eq_true,if_false] at he
    omega
  | false=>
   have:=a4 rfl
   cases tb with
   | true=>
    simp only[if_true,Bool.false_eq_true,if_false] at he
    omega
   | false=>
    have:=b4 rfl
    simp only[Bool.false_eq_true,if_false] at he
    obtain⟨rfl,rfl⟩:=inj zo
    obtain rfl:na=nb:=by omega
    rfl
 ·intro x hx
  obtain⟨k,hk,rfl⟩:=List.mem_map.1 hx
  obtain⟨a1,a2,a3,a4⟩:=info k hk
  have la:=spanN_lt k.to zo k.frm zo
  unfold keyN
  split
  ·rename_i h;have:=a3 h;omega
  ·rename_i h;have:=a4 (by simpa using h);omega
end
def wN(R:Nat→Nat)(Ns:List Node):Nat→Nat→Nat
 | 0,v=>match Ns[v]? with
  | some x=>leafN x
  | none=>0
 | d+1,v=>match Ns[v]? with
  | some x=>leafN x+(x.packs.map fun p=>R p.rule*packN (wN R Ns d) p).sum
  | none=>0
structure Nested(Ns:List Node):Prop where
 kid:∀u v,Kid Ns u v→u<Ns.length
 leaf:∀(u:Nat) (x:Node),Ns[u]?=some x→x.key.sym.term=true→x.packs=[]
 inn:∀(u v:Nat) (x y:Node),Ns[v]?=some x→Ns[u]?=some y→Kid Ns u v→x.key.frm≤y.key.frm∧y.key.to≤x.key.to
 span:∀(u:Nat) (x:Node),Ns[u]?=some x→x.key.frm≤x.key.to∧x.key.to≤5∧(x.key.sym.term=false→x.key.sym.n<4)
 inj:∀(u v:Nat) (x y:Node),Ns[u]?=some x→Ns[v]?=some y→x.key=y.key→u=v
structure Lk where
 v:Nat
 k:Key
 a:Nat
structure LkOk(R:Nat→Nat)(Ns:List Node)(d:Nat)(z:Lk):Prop where
 key:∃x,Ns[z.v]?=some x∧x.key=z.k∧x.key.sym.term=false
 at_:∃e,e≤d∧z.a=wN R Ns e z.v∧wN R Ns (e+1) z.v≠wN R Ns e z.v
structure IsSat(r:RingI)(M:Nat)(R:Nat→Nat):Prop where
 eP:r.P=fun a b=>min (a+b) M
 eT:r.T=fun a b=>min (a*b) M
 eR:r.R=R
 eM:r.M=M
 small:∀n,R n≤M
 one:1≤M
structure BetwM(R:Nat→Nat)(M:Nat)(Ns:List Node)(D k i:Nat)(cur:List Nat):Prop where
 len:cur.length=Ns.length
 low:∀u,u<Ns.length→min (wN R Ns k u) M≤valAt cur u
 low':∀u,u<i→u<Ns.length→min (wN R Ns (k+1) u) M≤valAt cur u
 up:∀u,valAt cur u≤min (wN R Ns D u) M
 leaf:∀(u:Nat) (x:Node),Ns[u]?=some x→x.key.sym.term=true→valAt cur u=1
theorem splits_in{w:List Nat}{E:List (List Nat)}(hle:∀s i m,stepB w E s i m=true→i≤w.length→i≤m){to:Nat}(hto:to≤w.length):∀{l:List Sym} {i:Nat} {ks:List Key},ks∈splits w E to l i→i≤w.length→(i≤to∧∀q∈ks,i≤q.frm∧q.frm≤q.to∧q.to≤to)
 | [],i,ks,h,hi=>by
  unfold splits at h
  split at h
  ·rename_i e
   obtain rfl:=List.mem_singleton.1 h
   exact⟨by omega,fun q hq=>by cases hq⟩
  ·cases h
 | s::l,i,ks,h,hi=>by
  unfold splits at h
  obtain⟨m,hm,h⟩:=List.mem_flatMap.1 h
  have hm:=List.mem_range.1 hm
  split at h
  ·rename_i hst
   obtain⟨ks',h2,rfl⟩:=List.mem_map.1 h
   have h3:=hle s i m hst hi
   obtain⟨h4,h5⟩:=splits_in hle hto h2 zo
   refine⟨by omega,fun q hq=>?_⟩
   rcases List.mem_cons.1 hq with rfl | hq
   ·exact⟨Nat.le_refl _,h3,h4⟩
   ·have:=h5 q hq;omega
  ·cases h
theorem own_nested{g:Gram}(hg:Valid g){w:List Nat}{E:List (List Nat)}(hE:EndsOf g w E){S:List Key}(hK:Keys g w E (rootKey g w) S)(hst:stepB w E ⟨false,g.start⟩ 0 w.length=true)(hn4:g.nons≤4)(hw:w.length≤5):Nested (S.map (mkNode g w E S)):=by
 have hlf:=own_leafy hg hE hK hst zo
 have hat:∀(u:Nat) (x:Node),(S.map (mkNode g w E S))[u]?=some x→∃k,S[u]?=some k∧x=mkNode g w E S k:=fun u x hx=>by
  rw[List.getElem?_map] at hx
  cases hk:S[u]? with
  | none=>rw[hk] at hx;cases hx
  | some k=>rw[hk] at hx;exact⟨k,rfl,(Option.some.inj hx).symm⟩
 have hle:∀s i m,stepB w E s i m=true→i≤w.length→i≤m:=fun s i m h hi=>der_le ((step_der hE hi).1 h)
 refine⟨hlf.kid,hlf.leaf,?_,?_,?_⟩
 ·intro u v x y hx hy hk
  obtain⟨k,hk1,rfl⟩:=hat v x hx
  obtain⟨q,hq1,rfl⟩:=hat u y hy
  obtain⟨x',p,h1,h2,h3⟩:=hk
  rw[hx] at h1
  cases h1
  obtain⟨kp,h4,rfl⟩:=List.mem_map.1 h2
  obtain⟨q',h5,h6⟩:=List.mem_map.1 h3
  have hq':=hK.closed k (gM hk1) kp h4 q' h5
  obtain rfl:q'=q:=by
   have:=place_at hq'
   rw[h6,hq1] at this
   exact(Option.some.inj this).symm
  have hgood:=(hK.reach k (gM hk1)).good hg (root_good hg w)
  obtain⟨r,_,_,_,h7⟩:=mem_packsOf.1 h4
  have:=(splits_in hle hgood.2.2 h7 hgood.2.1).2 q' h5
  exact⟨this.1,this.2.2⟩
 ·intro u x hx
  obtain⟨k,hk,rfl⟩:=hat u x hx
  have hkm:=gM hk
  have hgood:=(hK.reach k hkm).good hg (root_good hg w)
  have hd:=(step_der hE hgood.2.1).1 ((hK.reach k hkm).step (root:=rootKey g w) hst)
  refine⟨der_le hd,by show k.to≤5;have:=hgood.2.2;omega,fun ht=>?_⟩
  have ht:k.sym.term=false:=ht
  have:=hgood.1
  unfold SymOk at this
  rw[if_neg (by simp[ht])] at this
  show k.sym.n<4
  omega
 ·intro u v x y hx hy e
  obtain⟨k,hk,rfl⟩:=hat u x hx
  obtain⟨q,hq,rfl⟩:=hat v y hy
  have e:k=q:=e
  subst e
  rw[←place_of hK.nodup hk,←place_of hK.nodup hq]
mutual
theorem TreeOf.end_uniq{g:Gram}{w:List Nat}:∀{t:Tree} {s:Sym} {i j j':Nat},TreeOf g w s t i j→TreeOf g w s t i j'→j=j'
 | .mk _ _ _,_,_,_,_,.leaf _,h=>by cases h with
  | leaf _=>rfl
 | .mk _ _ ks,_,_,_,_,.node h h2,h'=>by
  generalize hs:(⟨false,_⟩:Sym)=s at h'
  cases h' with
  | node g1 g2=>
   rw[h] at g1;cases g1
   exact TreesOf.end_uniq h2 g2
theorem TreesOf.end_uniq{g:Gram}{w:List Nat}:∀{ts:List Tree} {l:List Sym} {i j j':Nat},TreesOf g w l ts i j→TreesOf g w l ts i j'→j=j'
 | [],_,_,_,_,.nil,h=>by cases h;rfl
 | _::_,_,_,_,_,.cons h1 h2,h=>by
  cases h with
  | cons g1 g2=>
   obtain rfl:=TreeOf.end_uniq h1 g1
   exact TreesOf.end_uniq h2 g2
end
mutual
theorem TreeOf.dec{g:Gram}{w:List Nat}:∀{t u:Tree} {s:Sym} {i j i' j':Nat} {x y:List Int},TreeOf g w s t i j→TreeOf g w s u i' j'→t.pre++x=u.pre++y→t=u∧x=y
 | .mk _ _ _,u,_,_,_,_,_,x,y,.leaf _,h,e=>by
  cases h with
  | leaf _=>
   have e:(-1:Int)::([]++x)=-1::([]++y):=e
   exact⟨rfl,by simpa using e⟩
 | .mk _ _ ks,u,_,_,_,_,_,x,y,.node h h2,h',e=>by
  generalize hs:(⟨false,_⟩:Sym)=s at h'
  cases h' with
  | leaf _=>cases hs
  | @node k' r' kids' _ _ g1 g2=>
   have e:((_:Nat):Int)::(preL ks++x)=(k':Int)::(preL kids'++y):=e
   injection e with e1 e2
   have e1:=Int.ofNat_inj.1 e1
   subst e1
   rw[h] at g1;cases g1
   obtain⟨rfl,rfl⟩:=TreesOf.dec h2 g2 e2
   exact⟨rfl,rfl⟩
theorem TreesOf.dec{g:Gram}{w:List Nat}:∀{ts us:List Tree} {l:List Sym} {i j i' j':Nat} {x y:List Int},TreesOf g w l ts i j→TreesOf g w l us i' j'→preL ts++x=preL us++y→ts=us∧x=y
 | [],us,_,_,_,_,_,x,y,.nil,h,e=>by
  cases h
  exact⟨rfl,by simpa [preL] using e⟩
 | t::ts,us,_,_,_,_,_,x,y,.cons h1 h2,h,e=>by
  cases h with
  | @cons _ _ u us _ _ _ g1 g2=>
   have e:(t.pre++preL ts)++x=(u.pre++preL us)++y:=e
   rw[List.append_assoc,List.append_assoc] at e
   obtain⟨rfl,e2⟩:=TreeOf.dec h1 g1 e
   obtain⟨rfl,rfl⟩:=TreesOf.dec h2 g2 e2
   exact⟨rfl,rfl⟩
end
section
variable {g:Gram}{w:List Nat}{E:List (List Nat)}{root:Key}{S:List Key}
theorem foOf_at{v:Nat}{k:Key}(hk:S[v]?=some k):(foOf (S.map (mkNode g w E S))).leaf v=(if k.sym.term=true then some k.sym.n else none)∧(foOf (S.map (mkNode g w E S))).packs v=(packsOf g w E k).map (numPack S):=by
 unfold foOf
 simp only[List.getElem?_map,hk]
 exact⟨rfl,rfl⟩
theorem trees_bound{to:Nat}:∀{l:List Sym} {i:Nat} {ks:List Key} {ts:List Tree},(∀q∈ks,q∈S)→NTs (foOf (S.map (mkNode g w E S))) (ks.map (place S)) ts→ks∈splits w E to l i→
  (∀(q:Key) (t:Tree),q∈ks→t∈ts→NT (foOf (S.map (mkNode g w E S))) (place S q) t→TreeOf g w q.sym t q.frm q.to)→TreesOf g w l ts i to:=by
 intro l
 induction l with
 | nil=>
  intro i ks ts hq hN h hS
  unfold splits at h
  split at h
  ·rename_i e
   subst e
   rw[List.mem_singleton.1 h] at hN
   cases hN
   exact .nil
  ·cases h
 | cons s l ih=>
  intro i ks ts hq hN h hS
  unfold splits at h
  obtain⟨m,_,hm⟩:=List.mem_flatMap.1 h
  split at hm
  ·obtain⟨ks',h2,rfl⟩:=List.mem_map.1 hm
   cases hN with
   | cons h3 h4=>
    exact .cons (hS ⟨s,i,m⟩ _ me me h3) (ih (fun q hq'=>hq q (List.mem_cons_of_mem _ hq')) h4 h2 fun q t h5 h6 h7=>hS q t (List.mem_cons_of_mem _ h5) (List.mem_cons_of_mem _ h6) h7)
  ·cases hm
theorem NT.tree(hK:Keys g w E root S)(hrs:StepK w E root):∀(N:Nat) (T:Tree) (k:Key),T.pre.length<N→k∈S→NT (foOf (S.map (mkNode g w E S))) (place S k) T→TreeOf g w k.sym T k.frm k.to
 | 0,_,_,h,_,_=>by omega
 | N+1,T,k,hN,hk,h=>by
  have hat:=place_at hk
  obtain⟨hl,hp⟩:=foOf_at (g:=g) (w:=w) (E:=E) hat
  cases h with
  | @leaf _ t h1 h2=>
   rw[hl] at h2
   split at h2
   ·rename_i ht
    cases h2
    have hst:=stepB_iff.1 ((hK.reach k hk).step hrs)
    unfold Step at hst
    rw[if_pos ht] at hst
    obtain⟨⟨st,sn⟩,kf,kt⟩:=k
    simp only at ht hst ⊢
    subst ht
    obtain⟨h3,rfl⟩:=hst
    exact .leaf h3
   ·cases h2
  | @node _ p ts h1 h2 h3 h4=>
   rw[hp] at h3
   obtain⟨kp,hkp,rfl⟩:=List.mem_map.1 h3
   obtain⟨r,hr,e1,e2,e3⟩:=mem_packsOf.1 hkp
   have hsub:∀q∈kp.kids,q∈S:=fun q hq=>hK.closed k hk kp hkp q hq
   have hTs:=trees_bound hsub h4 e3 (fun q t hq hm ht=>NT.tree hK hrs N t q (by
    have h5:=preL_mem hm
    have h6:(Tree.mk ((numPack S kp).rule:Int) 0 ts).pre.length=(preL ts).length+1:=rfl
    omega) (hsub q hq) ht)
   have:=TreeOf.node (g:=g) (w:=w) (k:=kp.rule) hr hTs
   obtain⟨⟨st,sn⟩,kf,kt⟩:=k
   simp only at e1 e2 this ⊢
   rw[e2,←e1]
   exact this
theorem kids_uniq(hS:∀(T:Tree) (k:Key),k∈S→NT (foOf (S.map (mkNode g w E S))) (place S k) T→TreeOf g w k.sym T k.frm k.to){to:Nat} :
  ∀{l:List Sym} {i:Nat} {ks ks2:List Key} {ts:List Tree},ks∈splits w E to l i→ks2∈splits w E to l i→(∀q∈ks,q∈S)→(∀q∈ks2,q∈S)→
   NTs (foOf (S.map (mkNode g w E S))) (ks.map (place S)) ts→NTs (foOf (S.map (mkNode g w E S))) (ks2.map (place S)) ts→ks=ks2:=by
 intro l
 induction l with
 | nil=>
  intro i ks ks2 ts h h2 _ _ _ _
  unfold splits at h h2
  split at h
  ·rename_i e
   rw[if_pos e] at h2
   rw[List.mem_singleton.1 h,List.mem_singleton.1 h2]
  ·cases h
 | cons s l ih=>
  intro i ks ks2 ts h h2 hq hq2 hN hN2
  unfold splits at h h2
  obtain⟨m,_,hm⟩:=List.mem_flatMap.1 h
  obtain⟨m2,_,hm2⟩:=List.mem_flatMap.1 h2
  split at hm
  ·split at hm2
   ·obtain⟨ks',h3,rfl⟩:=List.mem_map.1 hm
    obtain⟨ks2',h4,rfl⟩:=List.mem_map.1 hm2
    cases hN with
    | cons a1 a2=>
     cases hN2 with
     | cons b1 b2=>
      have c1:=hS _ ⟨s,i,m⟩ (hq _ me) a1
      have c2:=hS _ ⟨s,i,m2⟩ (hq2 _ me) b1
      obtain rfl:m=m2:=TreeOf.end_uniq c1 c2
      rw[ih h3 h4 (fun q hq'=>hq q (List.mem_cons_of_mem _ hq')) (fun q hq'=>hq2 q (List.mem_cons_of_mem _ hq')) a2 b2]
   ·cases hm2
  ·cases hm
theorem packs_nodup(g:Gram)(w:List Nat)(E:List (List Nat))(k:Key):(packsOf g w E k).Nodup:=by
 rw[List.nodup_iff_pairwise_ne]
 refine(packs_sorted g w E k).imp ?_
 rintro a b hab rfl
 have irr:∀l:List Key,¬KLt l l:=by
  intro l
  induction l with
  | nil=>intro h;cases h
  | cons q l ih=>
   intro h
   cases h with
   | here _ _ h=>omega
   | next h=>exact ih h
 rcases hab with h | h
 ·omega
 ·exact irr _ h.2
theorem fo_good(hg:Valid g)(hK:Keys g w E root S)(hrs:StepK w E root):(foOf (S.map (mkNode g w E S))).Good:=by
 have hnn:(foOf (S.map (mkNode g w E S))).n=S.length:=by unfold foOf;simp
 have hS:∀(T:Tree) (k:Key),k∈S→NT (foOf (S.map (mkNode g w E S))) (place S k) T→TreeOf g w k.sym T k.frm k.to:=fun T k hk h=>NT.tree hK hrs _ T k (Nat.lt_succ_self _) hk h
 have at_:∀v,v<(foOf (S.map (mkNode g w E S))).n→∃k,S[v]?=some k∧k∈S∧place S k=v:=fun v hv=>by
  rw[hnn] at hv
  have h1:S[v]?=some S[v]:=gE hv
  exact⟨_,h1,gM h1,place_of hK.nodup h1⟩
 have nt_lt:∀v T,NT (foOf (S.map (mkNode g w E S))) v T→v<(foOf (S.map (mkNode g w E S))).n:=fun v T h=>by
  cases h<;>assumption
 refine⟨fun v hv p hp=>?_,fun v T T' h h' e=>?_,fun v hv hl a b p q ha hb he ts h h'=>?_⟩
 ·obtain⟨k,hk,hkm,hpl⟩:=at_ v hv
  obtain⟨_,hps⟩:=foOf_at (g:=g) (w:=w) (E:=E) hk
  rw[hps] at hp
  obtain⟨kp,hkp,rfl⟩:=List.mem_map.1 hp
  obtain⟨r,hr,e1,e2,e3⟩:=mem_packsOf.1 hkp
  have hr4:=(hg.right r (gM hr)).2.1
  have hkl:=splits_kids e3
  refine⟨by show (kp.kids.map _).length≤4;rw[List.length_map,hkl];exact hr4,fun u hu=>?_⟩
  obtain⟨q,hq,rfl⟩:=List.mem_map.1 (show u∈kp.kids.map (place S) from hu)
  rw[hnn]
  exact List.idxOf_lt_length_of_mem (hK.closed k hkm kp hkp q hq)
 ·obtain⟨k,hk,hkm,hpl⟩:=at_ v (nt_lt v T h)
  subst hpl
  have h1:=hS T k hkm h
  have h2:=hS T' k hkm h'
  exact(TreeOf.dec (x:=[]) (y:=[]) h1 h2 (by rw[e])).1
 ·obtain⟨k,hk,hkm,hpl⟩:=at_ v hv
  obtain⟨_,hps⟩:=foOf_at (g:=g) (w:=w) (E:=E) hk
  rw[hps,List.getElem?_map] at ha hb
  cases hka:(packsOf g w E k)[a]? with
  | none=>rw[hka] at ha;cases ha
  | some kp=>
   cases hkb:(packsOf g w E k)[b]? with
   | none=>rw[hkb] at hb;cases hb
   | some kq=>
    rw[hka] at ha
    rw[hkb] at hb
    obtain rfl:=Option.some.inj ha
    obtain rfl:=Option.some.inj hb
    have hkpm:=gM hka
    have hkqm:=gM hkb
    obtain⟨r,hr,e1,e2,e3⟩:=mem_packsOf.1 hkpm
    obtain⟨r2,hr2,f1,f2,f3⟩:=mem_packsOf.1 hkqm
    have he:kp.rule=kq.rule:=he
    rw[he,hr2] at hr
    cases hr
    have hks:kp.kids=kq.kids:=kids_uniq hS e3 f3 (fun q hq=>hK.closed k hkm kp hkpm q hq) (fun q hq=>hK.closed k hkm kq hkqm q hq) h h'
    have hpq:kp=kq:=by cases kp;cases kq;simp only at he hks;subst he hks;rfl
    rw[←hpq] at hkb
    exact nodup_at (packs_nodup g w E k) hka hkb
theorem leaf_nopacks(hK:Keys g w E root S):∀v,(foOf (S.map (mkNode g w E S))).leaf v≠none→(foOf (S.map (mkNode g w E S))).packs v=[]:=fun v hv=>by
 cases hk:S[v]? with
 | none=>
  unfold foOf at hv
  simp[hk] at hv
 | some k=>
  obtain⟨h1,h2⟩:=foOf_at (g:=g) (w:=w) (E:=E) hk
  rw[h1] at hv
  rw[h2]
  split at hv
  ·rename_i ht
   rw[packsOf_term ht];rfl
  ·exact absurd rfl hv
theorem pks_packSum:∀(L:List Key),(L.map fun k=>(mkNode g w E S k).packs.length).sum=packSum g w E L
 | []=>rfl
 | k::L=>by
  have:=pks_packSum L
  unfold packSum at this ⊢
  simp only[List.map_cons,List.sum_cons,this]
  simp[mkNode]
end
def enumL(f:Nat→List Tree):List Nat→List (List Tree)
 | []=>[[]]
 | k::ks=>(f k).flatMap fun t=>(enumL f ks).map (t::·)
def enumT(Ns:List Node):Nat→Nat→List Tree
 | 0,_=>[]
 | d+1,v=>match Ns[v]? with
  | some x=>(if x.key.sym.term=true then [.mk (-1) x.key.sym.n []] else [])++x.packs.flatMap fun p=>(enumL (enumT Ns d) p.kids).map fun ts=>.mk p.rule 0 ts
  | none=>[]
theorem len_flat{α β:Type}(f:α→List β):∀l:List α,(l.flatMap f).length=(l.map fun a=>(f a).length).sum
 | []=>rfl
 | a::l=>by rw[List.flatMap_cons,List.length_append,List.map_cons,List.sum_cons,len_flat f l]
theorem enumL_len(f:Nat→List Tree):∀ks:List Nat,(enumL f ks).length=prodN (ks.map fun k=>(f k).length)
 | []=>rfl
 | k::ks=>by
  unfold enumL
  rw[len_flat]
  simp only[List.length_map,enumL_len f ks,List.map_cons,prodN]
  generalize f k=L
  induction L with
  | nil=>simp
  | cons a L ih=>simp only[List.map_cons,List.sum_cons,ih,List.length_cons,Nat.add_mul];omega
theorem enumT_len(Ns:List Node):∀d v,(enumT Ns d v).length=nodeT Ns d v
 | 0,_=>rfl
 | d+1,v=>by
  unfold enumT nodeT
  cases Ns[v]? with
  | none=>rfl
  | some x=>
   simp only[List.length_append,len_flat]
   congr 1
   ·unfold leafN;split<;>rfl
   ·congr 1
    apply List.map_congr_left
    intro p _
    rw[List.length_map,enumL_len]
    unfold packN
    congr 1
    apply List.map_congr_left
    intro k _
    exact enumT_len Ns d k
theorem enumL_mem{f:Nat→List Tree}{F:Fo}:∀{ks:List Nat} {ts:List Tree},NTs F ks ts→(∀k t,t∈ts→NT F k t→t∈f k)→ts∈enumL f ks
 | [],_,.nil,_=>by simp[enumL]
 | k::ks,_,.cons h h2,hf=>by
  unfold enumL
  exact List.mem_flatMap.2 ⟨_,hf k _ me h,List.mem_map.2 ⟨_,enumL_mem h2 (fun k t ht h=>hf k t (List.mem_cons_of_mem _ ht) h),rfl⟩⟩
theorem enumT_mem(Ns:List Node):∀(d:Nat) (T:Tree) (v:Nat),T.pre.length≤d→NT (foOf Ns) v T→T∈enumT Ns d v
 | 0,T,v,h,_=>by have:=T.pre;cases T with | mk r t ks=>simp[Tree.pre] at h
 | d+1,T,v,h,hT=>by
  cases hT with
  | @leaf _ t h1 h2=>
   unfold foOf at h2
   unfold enumT
   cases hx:Ns[v]? with
   | none=>simp[hx] at h2
   | some x=>
    simp only[hx] at h2 ⊢
    split at h2
    ·rename_i ht
     cases h2
     rw[if_pos ht]
     exact List.mem_append_left _ (List.mem_singleton.2 rfl)
    ·cases h2
  | @node _ p ts h1 h2 h3 h4=>
   unfold foOf at h3
   unfold enumT
   cases hx:Ns[v]? with
   | none=>simp[hx] at h3
   | some x=>
    simp only[hx] at h3 ⊢
    refine List.mem_append_right _ (List.mem_flatMap.2 ⟨p,h3,List.mem_map.2 ⟨ts,enumL_mem h4 fun k t ht hk=>enumT_mem Ns d t k ?_ hk,rfl⟩⟩)
    have h5:=preL_mem ht
    have h6:(Tree.mk (p.rule:Int) 0 ts).pre.length=(preL ts).length+1:=rfl
    omega
mutual
def Tree.cost(cost:List Nat):Tree→Nat
 | .mk r _ ks=>if r<0 then 0 else (cost[r.toNat]?).getD 0+costL cost ks
def costL(cost:List Nat):List Tree→Nat
 | []=>0
 | t::ts=>t.cost cost+costL cost ts
end
section
variable {cost:List Nat}{Ns:List Node}
theorem fo_leaf{v t:Nat}(h:(foOf Ns).leaf v=some t):∃x,Ns[v]?=some x∧x.key.sym.term=true:=by
 unfold foOf at h
 simp only at h
 split at h
 ·rename_i x hx
  split at h
  ·rename_i ht;exact⟨x,hx,ht⟩
  ·cases h
 ·cases h
theorem fo_node{v:Nat}(hv:v<(foOf Ns).n)(h:(foOf Ns).leaf v=none):∃x,Ns[v]?=some x∧x.key.sym.term=false∧(foOf Ns).packs v=x.packs:=by
 have hv:v<Ns.length:=hv
 have hx:=gE hv
 refine⟨_,hx,?_,?_⟩
 ·unfold foOf at h
  simp only[hx] at h
  split at h
  ·cases h
  ·rename_i ht;simpa using ht
 ·unfold foOf;simp only[hx]
theorem nts_sum{h:Nat→Option Nat}:∀{ks:List Nat} {ts:List Tree},NTs (foOf Ns) ks ts→(∀k t,t∈ts→NT (foOf Ns) k t→LeO (h k) (some (t.cost cost)))→(∀k∈ks,∃z,h k=some z)∧(ks.map fun k=>(h k).getD 0).sum≤costL cost ts
 | [],[],_,_=>⟨fun k hk=>(by cases hk),Nat.le_refl _⟩
 | k::ks,t::ts,.cons h1 h2,hl=>by
  obtain⟨i1,i2⟩:=nts_sum h2 fun k t ht hN=>hl k t (List.mem_cons_of_mem _ ht) hN
  obtain⟨z,hz,hle⟩:=hl k t me h1 _ rfl
  refine⟨fun q hq=>?_,?_⟩
  ·rcases List.mem_cons.1 hq with rfl | hq
   ·exact⟨z,hz⟩
   ·exact i1 q hq
  ·rw[List.map_cons,List.sum_cons,hz]
   show z+_≤t.cost cost+costL cost ts
   omega
theorem tree_ge(hrule:∀x∈Ns,∀p∈x.packs,p.rule<cost.length):∀(N:Nat) (T:Tree) (v:Nat),T.pre.length<N→NT (foOf Ns) v T→LeO (depO cost Ns T.pre.length v) (some (T.cost cost))
 | 0,_,_,h,_=>by omega
 | N+1,T,v,hN,h=>by
  cases h with
  | @leaf _ t h1 h2=>
   obtain⟨x,hx,ht⟩:=fo_leaf h2
   rw[depO_term cost hx ht]
   exact LeO.of_some (Nat.zero_le _)
  | @node _ p ts h1 h2 h3 h4=>
   obtain⟨x,hx,ht,hp⟩:=fo_node h1 h2
   rw[hp] at h3
   have e:(Tree.mk (p.rule:Int) 0 ts).pre.length=(preL ts).length+1:=rfl
   rw[e] at hN ⊢
   rw[depO_at cost hx ht]
   refine(nodeOf_le cost h3).trans ?_
   have hr:=hrule x (gM hx) p h3
   obtain⟨i1,i2⟩:=nts_sum (cost:=cost) (h:=depO cost Ns (preL ts).length) h4 fun k t htm hT=>by
     have:=preL_mem htm
     exact(depO_le cost this).trans (tree_ge hrule N t k zo hT)
   intro y hy
   obtain rfl:=Option.some.inj hy
   refine⟨_,(packOf_iff cost).2 ⟨cost[p.rule],gE hr,i1,rfl⟩,?_⟩
   show _≤if (p.rule:Int)<0 then 0 else (cost[(p.rule:Int).toNat]?).getD 0+costL cost ts
   rw[if_neg zo,Int.toNat_natCast,gE hr]
   show _≤cost[p.rule]+_
   omega
theorem nts_make{h:Nat→Nat}:∀{ks:List Nat},(∀k∈ks,∃T,NT (foOf Ns) k T∧T.cost cost=h k)→∃ts,NTs (foOf Ns) ks ts∧costL cost ts=(ks.map h).sum
 | [],_=>⟨[],.nil,rfl⟩
 | k::ks,hl=>by
  obtain⟨T,h1,h2⟩:=hl k me
  obtain⟨ts,h3,h4⟩:=nts_make fun q hq=>hl q (List.mem_cons_of_mem _ hq)
  exact⟨T::ts,.cons h1 h3,by rw[List.map_cons,List.sum_cons,←h2,←h4];rfl⟩
theorem term_tree{v:Nat}{x:Node}(hx:Ns[v]?=some x)(ht:x.key.sym.term=true):NT (foOf Ns) v (.mk (-1) x.key.sym.n []):=
 .leaf (gS hx).1 (by unfold foOf;simp only[hx];rw[if_pos ht])
theorem dep_tree:∀(d v y:Nat),depO cost Ns d v=some y→∃T,NT (foOf Ns) v T∧T.cost cost=y
 | d,v,y,h=>by
  rcases Option.eq_none_or_eq_some (Ns[v]?) with hx | ⟨x,hx⟩
  ·rw[depO_none cost hx] at h;cases h
  ·cases ht:x.key.sym.term with
   | true=>
    rw[depO_term cost hx ht] at h
    cases h
    exact⟨_,term_tree hx ht,rfl⟩
   | false=>
    cases d with
    | zero=>rw[depO_zero cost hx ht] at h;cases h
    | succ d=>
     rw[depO_at cost hx ht] at h
     obtain⟨p,hp,h1⟩:=nodeOf_at cost h
     obtain⟨c,h2,h3,rfl⟩:=(packOf_iff cost).1 h1
     obtain⟨ts,h4,h5⟩:=nts_make (cost:=cost) (Ns:=Ns) (h:=fun k=>(depO cost Ns d k).getD 0) (ks:=p.kids) fun k hk=>by
      obtain⟨z,hz⟩:=h3 k hk
      obtain⟨T,h6,h7⟩:=dep_tree d k z hz
      exact⟨T,h6,by rw[h7];show z=(depO cost Ns d k).getD 0;rw[hz];rfl⟩
     have hv:=(gS hx).1
     refine⟨.mk p.rule 0 ts,.node hv (by unfold foOf;simp only[hx];rw[if_neg (by simp[ht])]) (by unfold foOf;simp only[hx];exact hp) h4,?_⟩
     show (if (p.rule:Int)<0 then 0 else (cost[(p.rule:Int).toNat]?).getD 0+costL cost ts)=_
     rw[if_neg zo,Int.toNat_natCast,h2,h5]
     rfl
theorem addO_dbl(a b:Option Nat):addO (a.map (2*·)) (b.map (2*·))=(addO a b).map (2*·):=by
 cases a<;>cases b<;>simp[addO,Nat.mul_add]
theorem minO_dbl(a b:Option Nat):minO (a.map (2*·)) (b.map (2*·))=(minO a b).map (2*·):=by
 cases a<;>cases b<;>simp[minO]
theorem foldA_dbl{f h:Nat→Option Nat}(hf:∀k,h k=(f k).map (2*·)):∀(l:List Nat) (a:Option Nat),l.foldl (fun a k=>addO a (h k)) (a.map (2*·))=(l.foldl (fun a k=>addO a (f k)) a).map (2*·)
 | [],a=>rfl
 | k::l,a=>by rw[List.foldl_cons,List.foldl_cons,hf,addO_dbl,foldA_dbl hf l]
theorem packOf_dbl{f h:Nat→Option Nat}(hf:∀k,h k=(f k).map (2*·))(p:NPack):packOf (cost.map (2*·)) h p=(packOf cost f p).map (2*·):=by
 unfold packOf
 rw[List.getElem?_map,foldA_dbl hf]
theorem foldM_dbl{f h:NPack→Option Nat}(hf:∀p,h p=(f p).map (2*·)):∀(l:List NPack) (a:Option Nat),l.foldl (fun s p=>minO s (h p)) (a.map (2*·))=(l.foldl (fun s p=>minO s (f p)) a).map (2*·)
 | [],a=>rfl
 | k::l,a=>by rw[List.foldl_cons,List.foldl_cons,hf,minO_dbl,foldM_dbl hf l]
theorem depO_dbl:∀(d u:Nat),depO (cost.map (2*·)) Ns d u=(depO cost Ns d u).map (2*·)
 | d,u=>by
  rcases Option.eq_none_or_eq_some (Ns[u]?) with hx | ⟨x,hx⟩
  ·rw[depO_none _ hx,depO_none _ hx];rfl
  ·cases ht:x.key.sym.term with
   | true=>rw[depO_term _ hx ht,depO_term _ hx ht];rfl
   | false=>
    cases d with
    | zero=>rw[depO_zero _ hx ht,depO_zero _ hx ht];rfl
    | succ d=>
     rw[depO_at _ hx ht,depO_at _ hx ht]
     exact foldM_dbl (fun p=>packOf_dbl (fun k=>depO_dbl d k) p) _ none
end
def lenAt(Ns:List Node)(k:Nat):Nat:=match Ns[k]? with
 | some y=>y.key.to-y.key.frm
 | none=>0
structure Filled(Ns:List Node):Prop where
 nest:Nested Ns
 fill:∀(u:Nat) (x:Node),Ns[u]?=some x→∀p∈x.packs,p.kids.length≤3∧(p.kids.map (lenAt Ns)).sum=x.key.to-x.key.frm
 one:∀(u:Nat) (x:Node),Ns[u]?=some x→x.key.sym.term=true→x.key.to=x.key.frm+1
def liveB(Ns:List Node)(vs:List (Option Nat))(a b u:Nat):Bool:=match Ns[u]? with
 | some x=>!x.key.sym.term&&decide (x.key.frm=a)&&decide (x.key.to=b)&&(valO vs u).isSome
 | none=>false
def liveN(Ns:List Node)(vs:List (Option Nat))(a b:Nat):Nat:=(List.range Ns.length).countP (liveB Ns vs a b)
theorem countP_le{p q:Nat→Bool}:∀{l:List Nat},(∀x∈l,p x=true→q x=true)→l.countP p≤l.countP q
 | [],_=>Nat.le_refl _
 | x::l,h=>by
  have ih:=countP_le (p:=p) (q:=q) (l:=l) fun y hy=>h y (List.mem_cons_of_mem _ hy)
  have hx:=h x me
  rw[List.countP_cons,List.countP_cons]
  split
  ·rename_i hp;rw[if_pos (hx hp)];omega
  ·omega
theorem countP_lt{p q:Nat→Bool}{z:Nat}(hp:p z=false)(hq:q z=true):∀{l:List Nat},z∈l→(∀x∈l,p x=true→q x=true)→l.countP p+1≤l.countP q
 | x::l,hz,h=>by
  rw[List.countP_cons,List.countP_cons]
  rcases List.mem_cons.1 hz with rfl | hz
  ·have:=countP_le (p:=p) (q:=q) (l:=l) fun y hy=>h y (List.mem_cons_of_mem _ hy)
   rw[if_pos hq,if_neg (by simp[hp])]
   omega
  ·have:=countP_lt hp hq hz fun y hy=>h y (List.mem_cons_of_mem _ hy)
   have hx:=h x me
   split
   ·rename_i hp;rw[if_pos (hx hp)];omega
   ·omega
section
variable {Ns:List Node}(hF:Filled Ns)
include hF
theorem live_four(vs:List (Option Nat))(a b:Nat):liveN Ns vs a b≤4:=by
 unfold liveN
 rw[List.countP_eq_length_filter]
 have hz:∀z∈(List.range Ns.length).filter (liveB Ns vs a b),∃x,Ns[z]?=some x∧x.key.sym.term=false∧x.key.frm=a∧x.key.to=b:=fun z hz=>by
  have:=(List.mem_filter.1 hz).2
  unfold liveB at this
  split at this
  ·rename_i x hx
   simp only[Bool.and_eq_true,Bool.not_eq_true',decide_eq_true_eq] at this
   exact⟨x,hx,this.1.1.1,this.1.1.2,this.1.2⟩
  ·cases this
 have h:=nodup_lt 4 (((List.range Ns.length).filter (liveB Ns vs a b)).map fun z=>((Ns[z]?).elim 0 fun x=>x.key.sym.n)) ?_ ?_
 ·rwa [List.length_map] at h
 ·rw[List.nodup_iff_pairwise_ne,List.pairwise_map]
  have hn:((List.range Ns.length).filter (liveB Ns vs a b)).Nodup:=List.nodup_range.filter _
  refine(List.nodup_iff_pairwise_ne.1 hn).imp_of_mem ?_
  intro y z hy hz' hne he
  apply hne
  obtain⟨x1,h1,h2,h3,h4⟩:=hz y hy
  obtain⟨x2,g1,g2,g3,g4⟩:=hz z hz'
  rw[h1,g1] at he
  refine hF.nest.inj y z x1 x2 h1 g1 ?_
  obtain⟨⟨⟨t1,n1⟩,f1,o1⟩,p1⟩:=x1
  obtain⟨⟨⟨t2,n2⟩,f2,o2⟩,p2⟩:=x2
  simp only[Option.elim_some] at he h2 h3 h4 g2 g3 g4 ⊢
  subst he h2 h3 h4 g2 g3 g4
  rfl
 ·intro z hz'
  obtain⟨y,hy,rfl⟩:=List.mem_map.1 hz'
  obtain⟨x,h1,h2,_⟩:=hz y hy
  rw[h1]
  exact(hF.nest.span y x h1).2.2 h2
end
def emB:Nat→Nat
 | 0=>0
 | n+1=>98+3*emB n
theorem emB_step(n:Nat):emB n≤emB (n+1):=by show _≤98+3*emB n;omega
theorem emB_le{n m:Nat}(h:n≤m):emB n≤emB m:=by
 induction h with
 | refl=>exact Nat.le_refl _
 | step _ ih=>exact Nat.le_trans ih (emB_step _)
def bdO(len L:Nat):Nat:=if len=0 then emB L else (2*len-1)*63504+L*7938
theorem bdO_le{len n m:Nat}(h:n≤m):bdO len n≤bdO len m:=by
 unfold bdO
 split
 ·exact emB_le h
 ·omega
section
variable (cost:List Nat){Ns:List Node}
structure CapO(Ns:List Node)(vs:List (Option Nat)):Prop where
 len:vs.length=Ns.length
 term:∀(u:Nat) (x:Node),Ns[u]?=some x→x.key.sym.term=true→valO vs u=some 0
 down:∀(u:Nat) (x:Node),Ns[u]?=some x→x.key.sym.term=false→LeO (nodeOf cost (valO vs) x) (valO vs u)
 cap:∀(u:Nat) (x:Node) (y:Nat),Ns[u]?=some x→x.key.sym.term=false→valO vs u=some y→y≤bdO (x.key.to-x.key.frm) (liveN Ns vs x.key.frm x.key.to)
theorem live_le{vs vs':List (Option Nat)}(h:∀u,(valO vs u).isSome=true→(valO vs' u).isSome=true)(a b:Nat):liveN Ns vs a b≤liveN Ns vs' a b:=by
 refine countP_le fun x _ hx=>?_
 unfold liveB at hx ⊢
 split
 ·rename_i y hy
  simp only[hy,Bool.and_eq_true] at hx ⊢
  exact⟨hx.1,h _ hx.2⟩
 ·rename_i hy;simp only[hy] at hx;cases hx
theorem live_lt{vs vs':List (Option Nat)}(h:∀u,(valO vs u).isSome=true→(valO vs' u).isSome=true){u:Nat}{x:Node}(hx:Ns[u]?=some x)(ht:x.key.sym.term=false)(h1:valO vs u=none)(h2:(valO vs' u).isSome=true):liveN Ns vs x.key.frm x.key.to+1≤liveN Ns vs' x.key.frm x.key.to:=by
 refine countP_lt (z:=u) ?_ ?_ (List.mem_range.2 (gS hx).1) fun z _ hz=>?_
 ·unfold liveB;simp only[hx,h1];simp
 ·unfold liveB;simp only[hx,h2];simp[ht]
 ·unfold liveB at hz ⊢
  split
  ·rename_i y hy
   simp only[hy,Bool.and_eq_true] at hz ⊢
   exact⟨hz.1,h _ hz.2⟩
  ·rename_i hy;simp only[hy] at hz;cases hz
def KidB(len L l z:Nat):Prop:=(l=0∧z≤3920)∨(1≤l∧l<len∧z≤(2*l-1)*63504+31752)∨(1≤l∧l=len∧z≤(2*len-1)*63504+L*7938)
theorem kids_bound{len L:Nat}(hlen:1≤len)(hL:L≤4){f:Nat→Nat}{l:Nat→Nat}:∀(ks:List Nat),ks.length≤3→(∀k∈ks,KidB len L (l k) (f k))→(ks.map l).sum=len→98+(ks.map f).sum≤(2*len-1)*63504+(L+1)*7938
 | [],_,_,h=>by simp at h;omega
 | [a],_,hk,h=>by
  have h1:=hk a me
  simp only[List.map_cons,List.map_nil,List.sum_cons,List.sum_nil] at h ⊢
  unfold KidB at h1
  omega
 | [a,b],_,hk,h=>by
  have h1:=hk a me
  have h2:=hk b (List.mem_cons_of_mem _ me)
  simp only[List.map_cons,List.map_nil,List.sum_cons,List.sum_nil] at h ⊢
  unfold KidB at h1 h2
  generalize l a=la at *
  generalize l b=lb at *
  generalize f a=fa at *
  generalize f b=fb at *
  rcases h1 with ⟨h1,g1⟩ | ⟨h1,i1,g1⟩ | ⟨h1,i1,g1⟩<;>rcases h2 with ⟨h2,g2⟩ | ⟨h2,i2,g2⟩ | ⟨h2,i2,g2⟩<;>omega
 | [a,b,c],_,hk,h=>by
  have h1:=hk a me
  have h2:=hk b (List.mem_cons_of_mem _ me)
  have h3:=hk c (List.mem_cons_of_mem _ (List.mem_cons_of_mem _ me))
  simp only[List.map_cons,List.map_nil,List.sum_cons,List.sum_nil] at h ⊢
  unfold KidB at h1 h2 h3
  generalize l a=la at *
  generalize l b=lb at *
  generalize l c=lc at *
  generalize f a=fa at *
  generalize f b=fb at *
  generalize f c=fc at *
  rcases h1 with ⟨h1,g1⟩ | ⟨h1,i1,g1⟩ | ⟨h1,i1,g1⟩<;>rcases h2 with ⟨h2,g2⟩ | ⟨h2,i2,g2⟩ | ⟨h2,i2,g2⟩<;>rcases h3 with ⟨h3,g3⟩ | ⟨h3,i3,g3⟩ | ⟨h3,i3,g3⟩<;>omega
 | _::_::_::_::_,h,_,_=>by simp only[List.length_cons] at h;omega
theorem sum_le3{B:Nat}{f:Nat→Nat}:∀(ks:List Nat),ks.length≤3→(∀k∈ks,f k≤B)→(ks.map f).sum≤3*B
 | ks,h,hk=>by
  have aux:∀(ks:List Nat),(∀k∈ks,f k≤B)→(ks.map f).sum≤ks.length*B:=by
   intro ks
   induction ks with
   | nil=>intro _;simp
   | cons a l ih=>
    intro hk
    have h1:=hk a me
    have h2:=ih fun k hk'=>hk k (List.mem_cons_of_mem _ hk')
    rw[List.map_cons,List.sum_cons,List.length_cons,Nat.succ_mul]
    omega
  exact Nat.le_trans (aux ks hk) (Nat.mul_le_mul_right _ h)
theorem sum_zeroF{f:Nat→Nat}:∀{ks:List Nat},(ks.map f).sum=0→∀k∈ks,f k=0
 | a::l,h,k,hk=>by
  rw[List.map_cons,List.sum_cons] at h
  rcases List.mem_cons.1 hk with rfl | hk
  ·omega
  ·exact sum_zeroF zo k hk
theorem CapO.kid(hF:Filled Ns){vs:List (Option Nat)}(h:CapO cost Ns vs){u:Nat}{x:Node}(hx:Ns[u]?=some x){p:NPack}(hp:p∈x.packs){k z:Nat}(hk:k∈p.kids)(hz:valO vs k=some z) :
  ∃y,Ns[k]?=some y∧lenAt Ns k=y.key.to-y.key.frm∧x.key.frm≤y.key.frm∧y.key.to≤x.key.to∧y.key.frm≤y.key.to∧((y.key.sym.term=true∧y.key.to=y.key.frm+1∧z=0)∨(y.key.sym.term=false∧z≤bdO (y.key.to-y.key.frm) (liveN Ns vs y.key.frm y.key.to))):=by
 have hkid:Kid Ns k u:=⟨x,p,hx,hp,hk⟩
 obtain⟨y,hy⟩:∃y,Ns[k]?=some y:=⟨_,gE (hF.nest.kid k u hkid)⟩
 have h1:=hF.nest.inn k u x y hx hy hkid
 refine⟨y,hy,by unfold lenAt;rw[hy],h1.1,h1.2,(hF.nest.span k y hy).1,?_⟩
 cases ht:y.key.sym.term with
 | true=>
  have:=h.term k y hy ht
  rw[this] at hz
  exact .inl ⟨rfl,hF.one k y hy ht,(Option.some.inj hz).symm⟩
 | false=>exact .inr ⟨rfl,h.cap k y z hy ht hz⟩
theorem CapO.born(hF:Filled Ns)(hc:∀c∈cost,c≤98){vs:List (Option Nat)}(h:CapO cost Ns vs){u:Nat}{x:Node}(hx:Ns[u]?=some x){y:Nat}(hy:nodeOf cost (valO vs) x=some y):y≤bdO (x.key.to-x.key.frm) (liveN Ns vs x.key.frm x.key.to+1):=by
 obtain⟨p,hp,h1⟩:=nodeOf_at cost hy
 obtain⟨c,h2,h3,rfl⟩:=(packOf_iff cost).1 h1
 have hc98:=hc c (gM h2)
 obtain⟨h4,h5⟩:=hF.fill u x hx p hp
 have hL4:=live_four hF vs x.key.frm x.key.to
 rcases Nat.eq_zero_or_pos (x.key.to-x.key.frm) with h0 | h0
 ·rw[h0] at h5 ⊢
  have hs:=sum_le3 (B:=emB (liveN Ns vs x.key.frm x.key.to)) (f:=fun k=>(valO vs k).getD 0) p.kids h4 fun k hk=>by
   obtain⟨z,hz⟩:=h3 k hk
   obtain⟨y,hy,e1,e2,e3,e4,e5⟩:=h.kid cost hF hx hp hk hz
   have h6:=sum_zeroF h5 k hk
   have hsx:=hF.nest.span u x hx
   have f1:y.key.frm=x.key.frm:=by omega
   have f2:y.key.to=x.key.to:=by omega
   show (valO vs k).getD 0≤_
   rw[hz]
   show z≤_
   rcases e5 with ⟨_,e6,_⟩ | ⟨_,e6⟩
   ·omega
   ·rw[f1,f2,h0] at e6;exact e6
  show _≤emB (_+1)
  show _≤98+3*emB _
  omega
 ·have hk3:=kids_bound (len:=x.key.to-x.key.frm) (L:=liveN Ns vs x.key.frm x.key.to) zo hL4 (f:=fun k=>(valO vs k).getD 0) (l:=lenAt Ns) p.kids h4 ?_ h5
  ·unfold bdO
   rw[if_neg zo]
   omega
  ·intro k hk
   obtain⟨z,hz⟩:=h3 k hk
   obtain⟨y,hy,e1,e2,e3,e4,e5⟩:=h.kid cost hF hx hp hk hz
   show KidB _ _ _ ((valO vs k).getD 0)
   rw[hz,e1]
   show KidB _ _ _ z
   unfold KidB
   have hL:=live_four hF vs y.key.frm y.key.to
   rcases e5 with ⟨_,e6,rfl⟩ | ⟨_,e6⟩
   ·omega
   ·rcases Nat.eq_zero_or_pos (y.key.to-y.key.frm) with g0 | g0
    ·left
     rw[g0] at e6
     refine⟨g0,Nat.le_trans e6 ?_⟩
     exact emB_le (m:=4) hL
    ·right
     unfold bdO at e6
     rw[if_neg zo] at e6
     rcases Nat.lt_or_ge (y.key.to-y.key.frm) (x.key.to-x.key.frm) with g1 | g1
     ·left
      exact⟨g0,g1,by omega⟩
     ·right
      have f1:y.key.frm=x.key.frm:=by omega
      have f2:y.key.to=x.key.to:=by omega
      rw[f1,f2] at e6
      exact⟨g0,by omega,e6⟩
theorem CapO.step(hF:Filled Ns)(hc:∀c∈cost,c≤98){vs:List (Option Nat)}(h:CapO cost Ns vs)(i:Nat):CapO cost Ns (stepO cost Ns vs i):=by
 rcases Option.eq_none_or_eq_some (Ns[i]?) with hx | ⟨x,hx⟩
 ·have e:stepO cost Ns vs i=vs:=by unfold stepO;rw[hx]
  rw[e];exact h
 ·cases ht:x.key.sym.term with
  | true=>
   have e:stepO cost Ns vs i=vs:=by unfold stepO;rw[hx];simp only;rw[if_pos ht]
   rw[e];exact h
  | false=>
   have e:stepO cost Ns vs i=vs.set i (nodeOf cost (valO vs) x):=by unfold stepO;rw[hx];simp only;rw[if_neg (by simp[ht])];rfl
   rw[e]
   have hil:i<vs.length:=by rw[h.len];exact(gS hx).1
   have hle:∀u,LeO (valO (vs.set i (nodeOf cost (valO vs) x)) u) (valO vs u):=fun u=>by
    by_cases hu:u=i
    ·subst hu;rw[valO_set hil];exact h.down u x hx ht
    ·rw[valO_set_ne hu];exact LeO.refl _
   have hsome:∀u,(valO vs u).isSome=true→(valO (vs.set i (nodeOf cost (valO vs) x)) u).isSome=true:=fun u hu=>by
    obtain⟨y,hy⟩:=Option.isSome_iff_exists.1 hu
    obtain⟨z,hz,_⟩:=hle u y hy
    rw[hz];rfl
   refine⟨by rw[List.length_set];exact h.len,fun u y hy hyt=>?_,fun u y hy hyt=>?_,fun u y z hy hyt hz=>?_⟩
   ·have hu:u≠i:=fun e=>by subst e;rw[hx] at hy;cases hy;rw[ht] at hyt;cases hyt
    rw[valO_set_ne hu];exact h.term u y hy hyt
   ·refine(nodeOf_mono cost (h:=valO vs) fun p hp k hk=>hle k).trans ?_
    by_cases hu:u=i
    ·subst hu
     rw[hx] at hy
     obtain rfl:=Option.some.inj hy
     rw[valO_set hil];exact LeO.refl _
    ·rw[valO_set_ne hu];exact h.down u y hy hyt
   ·by_cases hu:u=i
    ·subst hu
     rw[hx] at hy
     obtain rfl:=Option.some.inj hy
     rw[valO_set hil] at hz
     rcases Option.eq_none_or_eq_some (valO vs u) with hn | ⟨z0,hn⟩
     ·refine Nat.le_trans (h.born cost hF hc hx hz) (bdO_le ?_)
      exact live_lt hsome hx ht hn (by rw[valO_set hil,hz];rfl)
     ·obtain⟨z',hz',hle'⟩:=h.down u x hx ht z0 hn
      rw[hz] at hz'
      obtain rfl:=Option.some.inj hz'
      exact Nat.le_trans hle' (Nat.le_trans (h.cap u x z0 hx ht hn) (bdO_le (live_le hsome _ _)))
    ·rw[valO_set_ne hu] at hz
     exact Nat.le_trans (h.cap u y z hy hyt hz) (bdO_le (live_le hsome _ _))
theorem CapO.round(hF:Filled Ns)(hc:∀c∈cost,c≤98){vs:List (Option Nat)}(h:CapO cost Ns vs):∀i,CapO cost Ns (roundToO cost Ns vs i)
 | 0=>h
 | i+1=>(CapO.round hF hc h i).step cost hF hc i
theorem capO_at(hF:Filled Ns)(hc:∀c∈cost,c≤98):∀k,CapO cost Ns (valsO cost Ns k)
 | 0=>by
  have e:∀(u:Nat) (x:Node),Ns[u]?=some x→valO (valsO cost Ns 0) u=leafO x:=fun u x hx=>by
   unfold valO valsO startO
   rw[List.getElem?_map,hx];rfl
  refine⟨valsO_len 0,fun u x hx ht=>?_,fun u x hx ht=>?_,fun u x y hx ht hy=>?_⟩
  ·rw[e u x hx];unfold leafO;rw[if_pos ht]
  ·rw[e u x hx];unfold leafO;rw[if_neg (by simp[ht])];exact LeO.none _
  ·rw[e u x hx] at hy;unfold leafO at hy;rw[if_neg (by simp[ht])] at hy;cases hy
 | k+1=>(capO_at hF hc k).round cost hF hc Ns.length
theorem cap_small(hF:Filled Ns)(hc:∀c∈cost,c≤98)(k i y:Nat)(hy:some y∈roundToO cost Ns (valsO cost Ns k) i):y≤1000000:=by
 have h:=(capO_at cost hF hc k).round cost hF hc i
 obtain⟨u,hu,hu2⟩:=List.getElem_of_mem hy
 obtain⟨x,hx⟩:∃x,Ns[u]?=some x:=⟨_,gE (by rw[←h.len];exact hu)⟩
 have hv:valO (roundToO cost Ns (valsO cost Ns k) i) u=some y:=by
  unfold valO
  rw[gE hu,hu2];rfl
 cases ht:x.key.sym.term with
 | true=>
  have:=h.term u x hx ht
  rw[hv] at this
  have:=Option.some.inj this
  omega
 | false=>
  have h1:=h.cap u x y hx ht hv
  have h2:=live_four hF (roundToO cost Ns (valsO cost Ns k) i) x.key.frm x.key.to
  have h3:=(hF.nest.span u x hx).2.1
  refine Nat.le_trans (Nat.le_trans h1 (bdO_le h2)) ?_
  unfold bdO
  split
  ·show (3920:Nat)≤_;decide
  ·omega
end
theorem splits_fill{w:List Nat}{E:List (List Nat)}(hle:∀s i m,stepB w E s i m=true→i≤w.length→i≤m){to:Nat}(hto:to≤w.length):∀{l:List Sym} {i:Nat} {ks:List Key},ks∈splits w E to l i→i≤w.length→ks.length=l.length∧(ks.map fun q=>q.to-q.frm).sum+i=to
 | [],i,ks,h,hi=>by
  unfold splits at h
  split at h
  ·rename_i e
   obtain rfl:=List.mem_singleton.1 h
   exact⟨rfl,by simp[e]⟩
  ·cases h
 | s::l,i,ks,h,hi=>by
  unfold splits at h
  obtain⟨m,hm,h⟩:=List.mem_flatMap.1 h
  have hm:=List.mem_range.1 hm
  split at h
  ·rename_i hst
   obtain⟨ks',h2,rfl⟩:=List.mem_map.1 h
   have h3:=hle s i m hst hi
   obtain⟨h4,h5⟩:=splits_fill hle hto h2 zo
   refine⟨by simp[h4],?_⟩
   rw[List.map_cons,List.sum_cons]
   show (m-i+_)+i=to
   omega
  ·cases h
theorem own_filled{g:Gram}(hg:Small g){w:List Nat}{E:List (List Nat)}(hE:EndsOf g w E){S:List Key}(hK:Keys g w E (rootKey g w) S)(hst:stepB w E ⟨false,g.start⟩ 0 w.length=true)(hw:w.length≤5):Filled (S.map (mkNode g w E S)):=by
 have hgv:=hg.valid
 have hle:∀s i m,stepB w E s i m=true→i≤w.length→i≤m:=fun s i m h hi=>der_le ((step_der hE hi).1 h)
 have hat:∀(u:Nat) (x:Node),(S.map (mkNode g w E S))[u]?=some x→∃k,S[u]?=some k∧x=mkNode g w E S k:=fun u x hx=>by
  rw[List.getElem?_map] at hx
  cases hk:S[u]? with
  | none=>rw[hk] at hx;cases hx
  | some k=>rw[hk] at hx;exact⟨k,rfl,(Option.some.inj hx).symm⟩
 refine⟨own_nested hgv hE hK hst hg.nons.2 hw,fun u x hx p hp=>?_,fun u x hx ht=>?_⟩
 ·obtain⟨k,hk,rfl⟩:=hat u x hx
  obtain⟨kp,hkp,rfl⟩:=List.mem_map.1 hp
  have hkm:=gM hk
  have hgood:=(hK.reach k hkm).good hgv (root_good hgv w)
  obtain⟨r,hr,_,_,h3⟩:=mem_packsOf.1 hkp
  obtain⟨h4,h5⟩:=splits_fill hle hgood.2.2 h3 hgood.2.1
  have h6:=(hg.ok r (gM hr)).2.1
  refine⟨by show (kp.kids.map _).length≤3;rw[List.length_map];omega,?_⟩
  have e:(kp.kids.map (place S)).map (lenAt (S.map (mkNode g w E S)))=kp.kids.map fun q=>q.to-q.frm:=by
   rw[List.map_map]
   refine List.map_congr_left fun q hq=>?_
   have:=place_at (hK.closed k hkm kp hkp q hq)
   show lenAt _ (place S q)=_
   unfold lenAt
   rw[List.getElem?_map,this]
   rfl
  show (((kp.kids.map (place S)).map _).sum:Nat)=k.to-k.frm
  rw[e];omega
 ·obtain⟨k,hk,rfl⟩:=hat u x hx
  have hkm:=gM hk
  have hst':=(hK.reach k hkm).step (root:=rootKey g w) hst
  obtain⟨⟨kt,kn⟩,kf,ko⟩:=k
  have ht:kt=true:=ht
  subst ht
  exact(stepB_term hst').1
theorem lfirst_spec(F:Frz){p:LP}{Ns:List Node}{r:LR}{s:Lst}{c:Cand}{done ex:List Cand}(hl:LOk p Ns F r s)(hf:(foOf Ns).Good)(hI:Inv (foOf Ns) p.most s done [] ex)(hc:CandOk (foOf Ns) p.most c)(hTop:∀T,candTree (foOf Ns) s.lists c=some T→∀v,(foOf Ns).leaf v=none→∀x∈s.lists v,tle x T)(hm:p.most≤1000)(hseen:s.seen.length<800000000000)(hNs:Ns.length≤1000000)(t0:Value)(ht0:one t0=true) :
  Abs.Spec CC 71 [.pointer (some ⟨p.li,0,none⟩),.agg ⟨candV c t0⟩] F [lrB p r] fun F' v o=>∃B',o=[B']∧∃r',B'=lrB p r'∧LOk p Ns F' r' (firstS (foOf Ns) s c):=by
 unfold candV
 refine Abs.Spec.fn (n:=20) Tryz.func71 rfl rfl fun own=>?_
 refine AW.seq (AW.reg ?_)
 refine WT.boxT Z Z Z Z Z Z (fun i3 hi3=>?_)
 refine WT.le (OwnLe.cons _ (lrB_own p r own)) ?_
 refine zB6 ?_
 refine WT.lookupT keyC (key:=c) hT 4 hl.se Z Z Z Z Z Z Z me Z Z Z ?_
 rw[hl.sl c]
 by_cases hin:c∈s.seen
 ·rw[if_pos hin]
  refine zB6 ?_
  refine AW.cond Z (fun h=>(by cases h)) (fun _=>?_)
  refine AW.le (OwnLe.trans (lrB_own' p r own) (OwnLe.skip _ oR)) ?_
  refine AW.skip ⟨_,[_],rfl,zsb,_,rfl,r,rfl,?_⟩
  unfold firstS
  rw[if_pos hin]
  exact hl
 ·rw[if_neg hin]
  refine zB6 ?_
  refine AW.cond Z (fun _=>?_) (fun h=>(by cases h))
  refine zB6 ?_
  refine WT.mapSetE keyC (key:=c) hT 4 0 hl.se Z Z Z Z Z Z Z Z Z Z (fun _=>rfl) (fun _=>rfl) (fun es1 hes1=>?_)
  refine zB6 ?_
  have hl1:LOk p Ns F { r with se:=es1,sm:=mset r.sm c (.bool true) } { s with seen:=s.seen++[c] }:=
   ⟨hl.nodes,hl.q,hl.qp,hl.qh,hl.rows,hl.rlen,hl.trees,hes1,fun x=>by
    show Abs.look (mset r.sm c (.bool true)) x=if x∈s.seen++[c] then some (.bool true) else none
    rw[look_mset,hl.sl x]
    by_cases e:x=c
    ·rw[if_pos e,if_pos (by rw[e];simp)]
    ·rw[if_neg e]
     by_cases h2:x∈s.seen
     ·rw[if_pos h2,if_pos (List.mem_append_left _ h2)]
     ·rw[if_neg h2,if_neg (fun h3=>by
       rcases List.mem_append.1 h3 with h3 | h3
       ·exact h2 h3
       ·exact e (List.mem_singleton.1 h3))],hl.we,hl.wn,hl.ws,hl.wg⟩
  refine WT.le (own2:=[(i3,.cells false [.int .i64 c.node,.int .i64 c.pack,.int .i64 c.r0,.int .i64 c.r1,.int .i64 c.r2,.int .i64 c.r3,.pointer none])]::lrB p { r with se:=es1,sm:=mset r.sm c (.bool true) }::own) (OwnLe.cons _ (lrB_own' p { r with se:=es1,sm:=mset r.sm c (.bool true) } own)) ?_
  refine WT.call1F 1 Tryz.func102 Z Z Z Z Z Z Z (fun _=>rfl) (ltry_spec F hl1 hf (hI.pre_ hc hin) hm (by show (s.seen++[c]).length≤_;rw[List.length_append,List.length_singleton];omega) hNs) (fun F4 v B4 hF4 hv=>?_)
  obtain⟨r',rfl,hl4⟩:=hv
  refine WT.le (OwnLe.skip _ oR) ?_
  refine zB4 ?_
  refine⟨_,[_],rfl,zsb,_,rfl,r',rfl,?_⟩
  unfold firstS
  rw[if_neg hin]
  exact hl4
theorem cand_inc{c:Cand}{j r:Nat}{t:Value}(h:c.ranks[j]?=some r):([.int .i64 c.node,.int .i64 c.pack,.int .i64 c.r0,.int .i64 c.r1,.int .i64 c.r2,.int .i64 c.r3,t]:List Value).set (0+2+j*1) (.int .i64 ((r+1:Nat):Int))=candV (c.inc j) t:=by
 match j,h with
 | 0,h=>simp[Cand.ranks] at h;subst h;rfl
 | 1,h=>simp[Cand.ranks] at h;subst h;rfl
 | 2,h=>simp[Cand.ranks] at h;subst h;rfl
 | 3,h=>simp[Cand.ranks] at h;subst h;rfl
 | _+4,h=>simp[Cand.ranks] at h
structure TakeS where
 r:LR
 s:Lst
theorem nodeTk_spec(F:Frz){p:LP}{Ns:List Node}{r:LR}{s:Lst}{c:Cand}{T:Tree}{tp:Nat}{q:List (Cand×Tree)}{done:List Cand}(hl:LOk p Ns F r { s with q:=q })(hf:(foOf Ns).Good)(hI:Inv (foOf Ns) p.most { s with q:=(c,T)::q } done [] [])(hb:BaseIn (foOf Ns) s)(hmin:∀y∈q,tle T y.2)(hsm:T.pre.length≤5000)(hsh:Sh F tp T)
  (hm:p.most≤1000) (hseen:s.seen.length+4<800000000000) (hNs:Ns.length≤1000000) :
  Abs.Spec CC 73 [.pointer (some ⟨p.li,0,none⟩),.agg ⟨candV c (.pointer (some ⟨tp,0,none⟩))⟩] F [lrB p r] fun F' v o=>∃B',o=[B']∧∃r' s',B'=lrB p r'∧LOk p Ns F' r' s'∧Inv (foOf Ns) p.most s' (c::done) [] []∧BaseIn (foOf Ns) s'∧
   (((s.lists c.node).length=p.most∧s'.lists=s.lists∧s'.seen=s.seen)∨((s.lists c.node).length<p.most∧s'.lists=updL s.lists c.node T∧s'.seen.length≤s.seen.length+4)):=by
 have hnl:=hl.nodes.len
 have hcq:=hI.qok (c,T) me
 have hok:CandOk (foOf Ns) p.most c:=hI.ok c hcq.1
 obtain⟨pk,hpk⟩:=hok.pack
 have hcn:c.node<Ns.length:=hok.node
 obtain⟨x,hx⟩:∃x,Ns[c.node]?=some x:=⟨_,gE hcn⟩
 have hpx:x.packs[c.pack]?=some pk:=by
  unfold packAt foOf at hpk
  simpa [hx] using hpk
 have hkid:=hf.kids c.node hok.node pk (gM hpk)
 obtain⟨ps,hps⟩:∃ps,r.pss[c.node]?=some ps:=⟨_,gE (by have:=hl.rlen;omega)⟩
 obtain⟨va,vn,vc,VB,b1,b2,hvk,hbs,hVB,hput⟩:=hl.rows.split hps
 have htr:ShL F ps (s.lists c.node):=hl.trees c.node ps hps
 have hvn:=hVB.len
 have htrl:=htr.len
 have hlen:(s.lists c.node).length≤p.most:=hI.len c.node
 unfold candV
 refine Abs.Spec.fn (n:=101) Tryz.func73 rfl rfl fun own=>?_
 refine AW.seq (AW.reg ?_)
 refine WT.boxT Z Z Z Z Z Z (fun i3 hi3=>?_)
 refine WT.le (OwnLe.cons _ (lrB_own p r own)) ?_
 refine zB6 ?_
 refine WT.idxA (j:=c.node) (s:=1) hT Z Z Z Z Z Z Z Z Z zo ?_
 refine WT.loadAt hT 2 Z Z Z Z Z Z me Z Z (v:=.slice va vn vc) (by rw[Nat.zero_add,Nat.mul_one];exact hvk) ?_
 refine zB6 ?_
 refine AW.cond Z (fun hc=>?_) (fun hc=>?_)
 ·have hc:vn=p.most:=by simp at hc;omega
  refine AW.le (OwnLe.trans (lrB_own' p r own) (OwnLe.skip _ oR)) ?_
  refine AW.ret ⟨_,[_],rfl,zsb,_,rfl,r,{ s with q:=q },rfl,hl,hI.drop (by rw[htrl,←hvn];exact hc),hb,.inl ⟨by rw[htrl,←hvn];exact hc,rfl,rfl⟩⟩
 ·have hc:vn<p.most:=by simp at hc;omega
  have hTk:=hI.take hf hb hmin (by rw[htrl,←hvn];exact hc) hsm
  have hvL:(s.lists c.node).length=vn:=by rw[htrl,←hvn]
  refine zB6 ?_
  rw[hbs]
  refine AW.le (OwnLe.cons _ (OwnLe.cons _ (OwnLe.cons _ (own_wsplit b1 VB b2 _)))) ?_
  refine AW.draw (ps:=[(3,16),(3,17),(5,16),(5,17),(9,16),(11,16),(13,16)]) Z Z ?_
  refine zB6 ?_
  refine WT.idxA (j:=c.node) (s:=1) hT Z Z Z Z Z Z Z Z Z zo ?_
  refine WT.loadAt hT 2 Z Z Z Z Z Z me Z Z (v:=.slice va vn vc) (by rw[Nat.zero_add,Nat.mul_one];exact hvk) ?_
  refine zB6 ?_
  refine WT.buildT hT Z Z Z Z Z Z Z Z Z Z Z Z Z Z (fun i9 hi9=>?_)
  refine WT.appendT (ys:=[tp]) hT 5 hVB Z (fun _=>rfl) Z Z Z Z Z Z Z Z Z Z Z (fun h0 s0=>news_own hT s0 0 Z Z Z Z) (Cells.single (R:=tPtr) (x:=tp) rfl) Z (by decide) zom (fun a3 c3 B3 hB3=>?_)
  skip
  refine WT.idxA (j:=c.node) (s:=1) hT Z Z Z Z Z Z Z Z Z zo ?_
  refine WT.storeAt hT 3 0 Z Z Z Z Z Z Z Z Z Z (by have:=hl.rows.len;have:=hl.rlen;omega) Z Z ?_
  rw[show 0+c.node*1=c.node by omega]
  refine zB6 ?_
  refine⟨zrA,?_⟩
  refine zB6 ?_
  refine WT.allocT hT Z Z Z Z Z Z (fun i5 hi5=>?_)
  refine zB6 ?_
  obtain⟨xa,xn,xc,WB,W1,W2,hlk,hwbs,hWB,_,ws',hdel,hwg'⟩:=hl.ws.slot hl.wn (c.node,vn)
  refine WT.lookupT keyW (key:=(c.node,vn)) hT 8 hl.we Z Z Z Z Z Z Z me Z Z Z ?_
  rw[hlk]
  refine zB6 ?_
  refine WT.deleteE keyW (key:=(c.node,vn)) hT 8 0 hl.we Z Z Z Z Z Z Z Z Z (fun _=>rfl) (fun _=>rfl) (fun es1 hes1=>?_)
  refine zB6 ?_
  have hWL:s.waits (c.node,(s.lists c.node).length)=getW r.ws (c.node,vn):=by rw[hvL];exact hl.wg _
  have hwf:=hI.w_few (c.node,vn)
  rw[show ({ s with q:=(c,T)::q }:Lst).waits (c.node,vn)=getW r.ws (c.node,vn) from hl.wg _] at hwf
  have hwf:(getW r.ws (c.node,vn)).length≤s.seen.length:=hwf
  have hxn:=hWB.len
  obtain⟨kI,kTop,kW,kInc,kM1,kM2⟩:=hTk
  rw[hWL] at kI kW
  have hl1:LOk p Ns F ⟨r.qa,r.qn,r.qc,r.qB,r.Q,r.vs.set c.node (.slice a3 (vn+1) c3),b1++(B3++b2),r.pss.set c.node (ps++[tp]),r.se,r.sm,es1,mdel r.wm (c.node,vn),W1++W2,ws'⟩ (tookS s c T q):=
   ⟨hl.nodes,hl.q,hl.qp,hl.qh,hput a3 (vn+1) c3 B3 _ hB3,by rw[List.length_set];exact hl.rlen,fun v us hv=>by
    show ShL F us (updL s.lists c.node T v)
    have hv:(r.pss.set c.node (ps++[tp]))[v]?=some us:=hv
    by_cases e:v=c.node
    ·subst e
     rw[List.getElem?_set_self (gS hps).1] at hv
     cases hv
     rw[updL_same]
     exact ShL.app htr (.cons hsh .nil)
    ·rw[List.getElem?_set_ne (fun e2=>e e2.symm)] at hv
     rw[updL_ne _ _ e]
     exact hl.trees v us hv,hl.se,hl.sl,hes1,nodup_mdel hl.wn,hdel,fun w=>by
    show (if w=(c.node,(s.lists c.node).length) then [] else s.waits w)=getW ws' w
    rw[hwg' w,hvL]
    split
    ·rfl
    ·exact hl.wg w⟩
  refine AW.range (S:=TakeS) (fun _=>[]) (fun u=>[(i3,.cells false [.int .i64 c.node,.int .i64 c.pack,.int .i64 c.r0,.int .i64 c.r1,.int .i64 c.r2,.int .i64 c.r3,.pointer (some ⟨tp,0,none⟩)])]::lrB p u.r::WB::own)
   (fun j u G=>LOk p Ns G u.r u.s∧Inv (foOf Ns) p.most u.s (c::done) ((getW r.ws (c.node,vn)).drop j) [c]∧u.s.lists=(tookS s c T q).lists∧u.s.seen=s.seen) xn ⟨_,_⟩
   Z Z Z Z Z Z Z Z Z zo rfl rfl (fun _=>rfl) (fun _=>rfl) sM ?_ ⟨hl1,by rw[List.drop_zero];exact kI,rfl,rfl⟩ ?_ ?_
  ·refine OwnLe.trans (OwnLe.cons _ (lrB_own' p _ (WB::own))) ?_
   refine OwnLe.trans (OwnLe.cons _ (OwnLe.cons _ (OwnLe.cons _ (own_wjoin b1 B3 b2 _)))) ?_
   rw[hwbs]
   exact OwnLe.skip _ (OwnLe.skip _ (OwnLe.cons _ (OwnLe.cons _ (OwnLe.cons _ (OwnLe.cons _ (OwnLe.cons _ (OwnLe.cons _ (OwnLe.cons _ (own_wsplit W1 WB W2 own)))))))))
  ·intro j u F1 hF1 hj hP
   obtain⟨ul,uI,uL,uS⟩:=hP
   obtain⟨d,hd⟩:∃d,(getW r.ws (c.node,vn))[j]?=some d:=⟨_,gE zo⟩
   have hWB1:GB tCN F1 xa xn xc WB (getW r.ws (c.node,vn)):=(bldC hWB).gb
   have hdrop:(getW r.ws (c.node,vn)).drop j=d::(getW r.ws (c.node,vn)).drop (j+1):=by
    obtain⟨h1,h2⟩:=gS hd
    rw[List.drop_eq_getElem_cons h1,h2]
   rw[hdrop] at uI
   refine zB6 ?_
   refine WT.gidx hT hWB1 Z Z Z Z Z Z Z Z Z hj (fun b7 hb7=>?_)
   refine WT.gldS hT 2 hWB1 hb7 hd Z Z Z Z Z Z (fun z hz=>hz) Z Z Z (fun l hl7=>?_)
   obtain rfl:l=candV d (.pointer none):=hl7
   unfold candV
   skip
   refine WT.allocT hT Z Z Z Z Z Z (fun i8 hi8=>?_)
   refine zB6 ?_
   refine WT.call1F 2 Tryz.func102 Z Z Z Z Z Z Z (fun _=>rfl) (ltry_spec F1 ul hf uI hm (by rw[uS];omega) hNs) (fun F4 v B4 hF4 hv=>?_)
   obtain⟨r',rfl,hl4⟩:=hv
   refine zB6 ?_
   have htl:=try_lists (foOf Ns) u.s d
   refine⟨⟨r',tryS (foOf Ns) u.s d⟩,sM,OwnLe.skip _ oR,hl4,uI.try_ hf (fun U hU v hv x hx=>?_),htl.1.trans uL,htl.2.trans uS⟩
   rw[uL] at hU hx
   exact .inl (wle_wlt (kTop v hv x hx) (kW d (gM hd) U hU))
  ·intro u F1 hF1 hP
   obtain⟨ul,uI,uL,uS⟩:=hP
   rw[List.drop_of_length_le zo] at uI
   have ul1:=ul.nodes
   have hlens:u.r.qn=u.r.qn:=rfl
   refine zB6 ?_
   refine WT.le (OwnLe.cons _ (lrB_own p u.r (WB::own))) ?_
   skip
   refine WT.idxL hT ul1 Z Z Z Z Z Z Z Z Z zo (fun z hz b7 off7 ro7 cs7 lx7 hb7 hp7 hrel7=>?_)
   rw[hx] at hz;cases hz
   obtain⟨pa,pn,pc,rfl,hpa⟩:=hrel7
   have hpal:=hpa.len
   refine zB6 ?_
   refine WT.idxL hT hpa Z Z Z Z Z Z Z Z Z (by have:=(gS hpx).1;omega) (fun z hz b8 off8 ro8 cs8 lx8 hb8 hp8 hrel8=>?_)
   rw[hpx] at hz;cases hz
   obtain⟨ka,kn,kc,rfl,hka,hkl⟩:=hrel8
   have hkal:=hka.len
   clear hb7 hp7
   refine zB6 ?_
   refine AW.range (S:=TakeS) (fun _=>[]) (fun z=>[(i3,.cells false [.int .i64 c.node,.int .i64 c.pack,.int .i64 c.r0,.int .i64 c.r1,.int .i64 c.r2,.int .i64 c.r3,.pointer (some ⟨tp,0,none⟩)])]::lrB p z.r::WB::own)
    (fun j z G=>LOk p Ns G z.r z.s∧Inv (foOf Ns) p.most z.s (c::done) [] [c]∧z.s.lists=(tookS s c T q).lists∧(∀d∈s.seen,d∈z.s.seen)∧z.s.seen.length≤s.seen.length+j∧∀i,i<j→c.inc i∈z.s.seen) kn ⟨u.r,u.s⟩
    Z Z Z Z Z Z Z Z Z zo rfl rfl (fun _=>rfl) (fun _=>rfl) sM (OwnLe.cons _ (lrB_own' p u.r (WB::own))) ⟨ul,uI,uL,fun d hd=>by rw[uS];exact hd,by rw[uS];exact Nat.le_refl _,fun i hi=>by omega⟩ ?_ ?_
   ·intro j z F2 hF2 hj hQ
    obtain⟨yl,yI,yL,yS,yn,yi⟩:=hQ
    have hj4:j<4:=by omega
    obtain⟨rj,hrj⟩:∃rj,c.ranks[j]?=some rj:=⟨_,gE (by show j<4;exact hj4)⟩
    have hrjm:=hok.rank rj (gM hrj)
    obtain⟨hci,hcT⟩:=kInc pk hpk j zo
    refine zB6 ?_
    refine WT.allocT hT Z Z Z Z Z Z (fun i10 hi10=>?_)
    refine zB6 ?_
    refine WT.idxArr (j:=j) (s:=1) (len:=4) hT Z Z Z Z Z Z Z Z Z hj4 ?_
    refine WT.loadAt hT 0 Z Z Z Z Z Z me Z Z (cand_rank hrj) ?_
    refine zC6 ?_
    refine WT.idxArr (j:=j) (s:=1) (len:=4) hT Z Z Z Z Z Z Z Z Z hj4 ?_
    refine WT.storeAt hT 0 0 Z Z Z Z Z Z Z Z Z Z (by show 0+2+j*1<7;omega) Z Z ?_
    rw[cand_inc hrj]
    unfold candV
    refine zB6 ?_
    refine WT.call1F 2 Tryz.func71 Z Z Z Z Z Z Z (fun _=>rfl) (lfirst_spec F2 yl hf yI hci (fun U hU v hv x hx=>by
     rw[yL] at hU hx
     exact .inl (wle_wlt (kTop v hv x hx) (hcT U hU))) hm zo hNs (.pointer (some ⟨tp,0,none⟩)) rfl) (fun F4 v B4 hF4 hv=>?_)
    obtain⟨r',rfl,hl4⟩:=hv
    refine zB6 ?_
    obtain⟨f1,f2,f3,f4⟩:=first_lists (foOf Ns) z.s (c.inc j)
    refine⟨⟨r',firstS (foOf Ns) z.s (c.inc j)⟩,sM,OwnLe.skip _ oR,hl4,yI.first_ hf hci (fun U hU v hv x hx=>?_),f1.trans yL,fun d hd=>f2 d (yS d hd),by show (firstS (foOf Ns) z.s (c.inc j)).seen.length≤s.seen.length+(j+1);omega,fun i hi=>?_⟩
    ·rw[yL] at hU hx
     exact .inl (wle_wlt (kTop v hv x hx) (hcT U hU))
    ·rcases Nat.lt_or_ge i j with h1 | h1
     ·exact f2 _ (yi i h1)
     ·obtain rfl:i=j:=by omega
      exact f3
   ·intro z F2 hF2 hQ
    obtain⟨yl,yI,yL,yS,yn,yi⟩:=hQ
    refine⟨_,[_],rfl,List.Sublist.cons _ (List.Sublist.cons_cons _ (List.Sublist.cons _ (List.Sublist.refl _))),_,rfl,z.r,z.s,rfl,yl,yI.close (T:=T) (by rw[yL];exact kM1) (by rw[yL];exact kM2) (fun p' hp' i hi=>?_),fun v hv hl' a ha=>yS _ (hb v hv hl' a ha),.inr ⟨by rw[hvL];exact hc,yL,by omega⟩⟩
    rw[hpk] at hp';cases hp'
    exact yi i zo
def tTC:Ty (List Value) where
 size:=3
 rel:=fun _ l x=>l=x∧x.length=3∧x.all Go.Abs.one=true
 len:=fun _ _ _ h=>by rw[h.1];exact h.2.1
 one:=fun _ _ _ h=>by rw[h.1];exact h.2.2
 mono:=fun _ _ _ _ _ h=>h
def E0:Frz:=fun _=>none
theorem cellsT{F G:Frz}{cs:List Value}{ps:List (List Value)}(h:Cells tTC F cs ps):Cells tTC G cs ps:=by
 induction h with
 | nil=>exact .nil
 | cons h _ ih=>exact .cons h ih
theorem bldT{F G:Frz}{a:Option Addr}{n c:Nat}{B:List (Nat×Blk)}{ps:List (List Value)}(h:Bld tTC F a n c B ps):Bld tTC G a n c B ps:=
 ⟨h.len,h.at_.imp id fun ⟨i,cs,h1,h2,h3,h4,h5⟩=>⟨i,cs,h1,h2,h3,cellsT h4,h5⟩⟩
mutual
inductive TOwn:List Value→List (Nat×Blk)→Tree→Prop
 | mk {r:Int} {t:Nat} {ks:List Tree} {a:Option Addr} {n c:Nat} {B bs:List (Nat×Blk)} {css:List (List Value)}:Bld tTC E0 a n c B css→TOwnL css bs ks→ks.length≤1000000→TOwn [.int .i64 r,.int .i64 t,.slice a n c] (B++bs) (.mk r t ks)
inductive TOwnL:List (List Value)→List (Nat×Blk)→List Tree→Prop
 | nil:TOwnL [] [] []
 | cons {cs:List Value} {B:List (Nat×Blk)} {t:Tree} {css:List (List Value)} {bs:List (Nat×Blk)} {ts:List Tree}:TOwn cs B t→TOwnL css bs ts→TOwnL (cs::css) (B++bs) (t::ts)
end
theorem TOwn.shape{cs:List Value}{B:List (Nat×Blk)}{t:Tree}(h:TOwn cs B t):cs.length=3∧cs.all Go.Abs.one=true:=by
 cases h;exact⟨rfl,rfl⟩
theorem TOwnL.len:∀{css:List (List Value)} {bs:List (Nat×Blk)} {ts:List Tree},TOwnL css bs ts→css.length=ts.length
 | _,_,_,.nil=>rfl
 | _,_,_,.cons _ h=>by simp[TOwnL.len h]
theorem TOwnL.snoc{cs:List Value}{B:List (Nat×Blk)}{t:Tree}(h:TOwn cs B t):∀{css:List (List Value)} {bs:List (Nat×Blk)} {ts:List Tree},TOwnL css bs ts→TOwnL (css++[cs]) (bs++B) (ts++[t])
 | _,_,_,.nil=>by simpa using TOwnL.cons h .nil
 | _,_,_,.cons h1 h2=>by
  rw[List.append_assoc]
  exact .cons h1 (TOwnL.snoc h h2)
mutual
theorem TOwn.frozen{G:Frz}:∀{t:Tree} {cs:List Value} {B:List (Nat×Blk)},TOwn cs B t→(∀i b,(i,b)∈B→G i=some b)→tTree.rel G cs t
 | .mk _ _ ks,_,_,.mk hb hL hk,hB=>tTree_mk (TOwnL.frozen hb hL (fun i b hm=>hB i b (List.mem_append_left _ hm)) (fun i b hm=>hB i b (List.mem_append_right _ hm))) hk
theorem TOwnL.cells{G:Frz}:∀{ts:List Tree} {css:List (List Value)} {bs:List (Nat×Blk)} {cs:List Value},Cells tTC E0 cs css→TOwnL css bs ts→(∀i b,(i,b)∈bs→G i=some b)→Cells tTree G cs ts
 | [],_,_,_,hc,.nil,_=>by cases hc;exact .nil
 | t::ts,_,_,_,hc,.cons h1 h2,hB=>by
  cases hc with
  | cons g1 g2=>
   obtain⟨rfl,_⟩:=g1
   exact .cons (TOwn.frozen h1 fun i b hm=>hB i b (List.mem_append_left _ hm)) (TOwnL.cells g2 h2 fun i b hm=>hB i b (List.mem_append_right _ hm))
theorem TOwnL.frozen{G:Frz}:∀{ts:List Tree} {css:List (List Value)} {bs:List (Nat×Blk)} {a:Option Addr} {n c:Nat} {B:List (Nat×Blk)},Bld tTC E0 a n c B css→TOwnL css bs ts→(∀i b,(i,b)∈B→G i=some b)→(∀i b,(i,b)∈bs→G i=some b)→Arr tTree G a n c ts
 | ts,css,bs,a,n,c,B,hb,hL,hB,hB2=>by
  have hl:=hb.len
  have hl2:=hL.len
  have:Bld tTree G a n c B ts:=⟨by omega,hb.at_.imp (fun ⟨h1,h2,h3,h4⟩=>⟨List.eq_nil_of_length_eq_zero (by rw[←hl2,h1];rfl),h2,h3,h4⟩) fun ⟨i,cs,h1,h2,h3,h4,h5⟩=>⟨i,cs,h1,h2,h3,TOwnL.cells h4 hL hB2,by decide⟩⟩
  exact this.frozen (Frz.le.refl G) hB
end
theorem leafOwn_spec(F:Frz)(t:Nat):Abs.Spec CC 65 [.int .i64 t] F [] fun F' v o=>o=[]∧v=.agg ⟨[.int .i64 (-1),.int .i64 t,.slice none 0 0]⟩:=by
 refine Abs.Spec.fn (n:=5) Tryz.func65 rfl rfl fun own=>?_
 refine AW.seq (AW.reg ?_)
 refine WT.allocT hT Z Z Z Z Z Z (fun i2 hi2=>?_)
 refine zB4 ?_
 exact AW.ret ⟨_,[],⟨_,_,⟨_,rfl,fun G h0 s0=>loadA_cells (s0.has (p:=0) rfl me) (readT_ok hT rfl)⟩,rfl,rfl⟩,zsb,rfl,rfl⟩
inductive Plain:Tree→Prop
 | leaf {t:Nat}:Plain (.mk (-1) t [])
 | node {r:Nat} {ks:List Tree}:(∀k∈ks,Plain k)→Plain (.mk r 0 ks)
mutual
theorem NT.plain{f:Fo}:∀{T:Tree} {v:Nat},NT f v T→Plain T
 | .mk _ _ _,_,.leaf _ _=>.leaf
 | .mk _ _ _,_,.node _ _ _ h=>.node (NTs.plain h)
theorem NTs.plain{f:Fo}:∀{ts:List Tree} {ks:List Nat},NTs f ks ts→∀t∈ts,Plain t
 | [],_,_,t,h=>by cases h
 | t0::ts,_,.cons h1 h2,t,h=>by
  rcases List.mem_cons.1 h with e | h
  ·rw[e];exact NT.plain h1
  ·exact NTs.plain h2 t h
end
theorem perm_cpT{α:Type}(x a b c l:List α):(x++(a++(b++(c++l)))).Perm (a++(b++(c++(x++l)))):=by
 have h:=(List.perm_append_comm (l₁:=x) (l₂:=a++(b++c))).append_right l
 simpa [List.append_assoc] using h
structure PlS where
 a:Option Addr
 c:Nat
 B:List (Nat×Blk)
 css:List (List Value)
 bs:List (Nat×Blk)
theorem plain_spec:∀(N:Nat) (T:Tree),T.pre.length<N→Plain T→T.pre.length≤100000→∀(F:Frz) (p:Nat),Sh F p T→
  Abs.Spec CC 74 [.pointer (some ⟨p,0,none⟩)] F [] fun F' v o=>∃B',o=[B']∧∃cs,v=.agg ⟨cs⟩∧TOwn cs B' T
 | 0,_,h,_,_,_,_,_=>by omega
 | N+1,T,hN,hp,hT1,F,p,hs=>by
  cases hp with
  | @leaf t=>
   cases hs with
   | @mk _ _ _ _ a n c ps g1 g2 g3=>
   refine Abs.Spec.fn (n:=39) Tryz.func74 rfl rfl fun own=>?_
   refine AW.seq (AW.reg ?_)
   refine WT.allocT hT Z Z Z Z Z Z (fun i2 hi2=>?_)
   refine zB4 ?_
   refine AW.cond Z (fun _=>?_) (fun h=>(by cases h))
   refine zB4 ?_
   refine WT.callV Tryz.func65 Z Z Z Z Z Z (leafOwn_spec _ t) (fun v hv=>?_)
   subst hv
   refine zB4 ?_
   refine AW.le (own2:=[]::[(i2,.cells false [.int .i64 (-1),.int .i64 t,.slice none 0 0])]::own) (OwnLe.flat (List.Perm.refl _)) ?_
   exact AW.ret ⟨_,[[]],⟨_,_,⟨_,rfl,fun G h0 s0=>loadA_cells (s0.has (p:=1) rfl me) (readT_ok hT rfl)⟩,rfl,rfl⟩,List.Sublist.cons_cons _ (List.Sublist.cons _ (List.Sublist.refl _)),_,rfl,_,rfl,TOwn.mk (B:=[]) (bs:=[]) (Bld.nil_ _ _) .nil (by simp)⟩
  | @node r ks hks=>
   cases hs with
   | @mk _ _ _ _ a n c ps g1 g2 g3=>
   have hal:=g2.len
   have hsl:=g3.len
   have hkl:=preL_ge ks
   have hpe:(Tree.mk (r:Int) 0 ks).pre.length=(preL ks).length+1:=rfl
   refine Abs.Spec.fn (n:=39) Tryz.func74 rfl rfl fun own=>?_
   refine AW.seq (AW.reg ?_)
   refine WT.allocT hT Z Z Z Z Z Z (fun i2 hi2=>?_)
   refine zB4 ?_
   refine AW.cond Z (fun h=>?_) (fun _=>?_)
   ·exfalso;simp at h;omega
   refine zB4 ?_
   refine WT.allocT hT Z Z Z Z Z Z (fun i3 hi3=>?_)
   refine zB4 ?_
   refine AW.range (S:=PlS) (fun _=>[]) (fun s=>s.B::[(i3,.cells false [.int .i64 r,.int .i64 0,.slice s.a s.css.length s.c])]::s.bs::[(i2,.cells false [.int .i64 0,.int .i64 0,.slice none 0 0])]::own)
    (fun j s G=>Bld tTC E0 s.a s.css.length s.c s.B s.css∧TOwnL s.css s.bs (ks.take j)) n ⟨none,0,[],[],[]⟩
    Z Z Z Z Z Z Z Z Z zo rfl rfl (fun _=>rfl) (fun _=>rfl) sM (OwnLe.flat (List.Perm.refl _)) ⟨Bld.nil_ _ _,.nil⟩ ?_ ?_
   ·intro j s F1 hF1 hj hP
    obtain⟨hb,hL⟩:=hP
    have hLl:=hL.len
    rw[List.length_take] at hLl
    have g2':=g2.mono hF1
    obtain⟨k,hk⟩:∃k,ks[j]?=some k:=⟨_,gE zo⟩
    have hkm:=gM hk
    have hkp:=preL_mem hkm
    refine zB4 ?_
    refine WT.idxL hT g2' Z Z Z Z Z Z Z Z Z zo (fun q hq b9 off9 ro9 cs9 lx9 hb9 hp9 hrel9=>?_)
    obtain rfl:lx9=_:=hrel9
    have hsq:=(g3.at_ hq hk).mono hF1
    refine zB4 ?_
    refine AW.draw (ps:=[(1,3),(1,4)]) Z Z ?_
    refine zB4 ?_
    refine WT.callN Tryz.func74 Z Z Z Z Z Z (plain_spec N k zo (hks k hkm) zo F1 q hsq) (fun F2 v B2 hF2 hv=>?_)
    obtain⟨cs,rfl,hcs⟩:=hv
    obtain⟨hc3,hc1⟩:=hcs.shape
    obtain⟨x1,x2,x3,rfl⟩:∃x1 x2 x3,cs=[x1,x2,x3]:=by
     match cs,hc3 with
     | [x1,x2,x3],_=>exact⟨x1,x2,x3,rfl⟩
    skip
    refine WT.buildT hT Z Z Z Z Z Z Z Z Z Z Z Z Z Z (fun i9 hi9=>?_)
    refine WT.appendT (R:=tTC) (ys:=[[x1,x2,x3]]) hT 2 (bldT hb) Z (fun _=>rfl) Z Z Z Z Z Z Z Z Z Z Z (fun h0 s0=>news_own hT s0 0 Z Z Z Z) (Cells.single (R:=tTC) ⟨rfl,rfl,hc1⟩) Z (by decide) zom (fun a3 c3 B3 hB3=>?_)
    refine zB4 ?_
    refine⟨zrA,?_⟩
    refine⟨⟨a3,c3,B3,s.css++[[x1,x2,x3]],s.bs++B2⟩,sM,?_,by show Bld tTC E0 a3 (s.css++[[x1,x2,x3]]).length c3 B3 _;rw[List.length_append];exact bldT hB3,by rw[List.take_add_one,hk];exact hL.snoc hcs⟩
    ·show OwnLe (B3::[(i3,.cells false [.int .i64 r,.int .i64 0,.slice a3 (s.css++[[x1,x2,x3]]).length c3])]::(s.bs++B2)::_) _
     rw[List.length_append]
     refine OwnLe.skip _ (OwnLe.flat ?_)
     simp only[List.flatten_cons,List.append_assoc]
     exact perm_cpT _ _ _ _ _
   ·intro s F1 hF1 hP
    obtain⟨hb,hL⟩:=hP
    rw[List.take_of_length_le zo] at hL
    refine zB4 ?_
    refine AW.le (own2:=[(i2,.cells false [.int .i64 r,.int .i64 0,.slice s.a s.css.length s.c])]::(s.B++s.bs)::own) (OwnLe.trans (OwnLe.flat ?_) (OwnLe.cons _ (OwnLe.skip _ oR))) ?_
    ·have:=List.perm_middle (a:=(i2,Blk.cells false [.int .i64 r,.int .i64 0,.slice s.a s.css.length s.c])) (l₁:=s.B++s.bs) (l₂:=own.flatten)
     simpa [List.append_assoc] using this
    refine AW.ret ⟨_,[_],⟨_,_,⟨_,rfl,fun G h0 s0=>loadA_cells (s0.has (p:=0) Z me) (readT_ok hT rfl)⟩,rfl,rfl⟩,List.Sublist.cons _ (List.Sublist.refl _),_,rfl,_,rfl,TOwn.mk hb hL zo⟩
def ResOk(g:Gram)(w:List Nat)(F:Frz)(s:Sym)(i:Nat)(v:Value):Prop:=
 v=.agg ⟨[.pointer none,.int .i64 (-1)]⟩∨∃b ro cs t j,v=.agg ⟨[.pointer (some ⟨b,0,none⟩),.int .i64 (j:Nat)]⟩∧F b=some (.cells ro cs)∧tTree.rel F cs t∧TreeOf g w s t i j
theorem ResOk.mono{g:Gram}{w:List Nat}{F G:Frz}{s:Sym}{i:Nat}{v:Value}(h:ResOk g w F s i v)(hF:Frz.le F G):ResOk g w G s i v:=by
 rcases h with h | ⟨b,ro,cs,t,j,h1,h2,h3,h4⟩
 ·exact .inl h
 ·exact .inr ⟨b,ro,cs,t,j,h1,hF _ _ h2,tTree.mono _ _ _ _ hF h3,h4⟩
def MemoOk(g:Gram)(w:List Nat)(F:Frz)(es:Ents (Nat×Nat)):Prop:=∀n i v,Abs.look es (n,i)=some v→ResOk g w F ⟨false,n⟩ i v
theorem MemoOk.mono{g:Gram}{w:List Nat}{F G:Frz}{es:Ents (Nat×Nat)}(h:MemoOk g w F es)(hF:Frz.le F G):MemoOk g w G es:=fun n i v q=>(h n i v q).mono hF
structure PA where
 p:Nat
 im:Nat
 a:Option Addr
 m:Nat
 c:Nat
 b:Option Addr
 k:Nat
 d:Nat
structure ParserAt(F:Frz)(x:PA)(g:Gram)(w:List Nat):Prop where
 blk:∃ro,F x.p=some (.cells ro [.int .i64 g.terms,.int .i64 g.nons,.int .i64 g.start,.slice x.a x.m x.c,.slice x.b x.k x.d,.map (some x.im)])
 rules:Arr tRule F x.a x.m x.c g.rules
 word:Arr tNat F x.b x.k x.d w
theorem ParserAt.mono{F G:Frz}{x:PA}{g:Gram}{w:List Nat}(h:ParserAt F x g w)(hF:Frz.le F G):ParserAt G x g w:=
 ⟨let ⟨ro,q⟩:=h.blk;⟨ro,hF _ _ q⟩,h.rules.mono hF,h.word.mono hF⟩
def Memo(g:Gram)(w:List Nat)(x:PA)(F:Frz)(B:List (Nat×Blk)):Prop:=∃es,B=[(x.im,.map (entsV keyP es))]∧MemoOk g w F es
theorem Memo.mono{g:Gram}{w:List Nat}{x:PA}{F G:Frz}{B:List (Nat×Blk)}(h:Memo g w x F B)(hF:Frz.le F G):Memo g w x G B:=by
 obtain⟨es,e,h⟩:=h;exact⟨es,e,h.mono hF⟩
def meetQ{S:Type}(kn:S→Kno)(ow:S→Own)(P:S→Frz→Prop)(A:Ex→Kno→Frz→Own→Prop):Ex→Kno→Frz→Own→Prop
 | .normal,k',F',own'=>∃s,SubK (kn s) k'∧OwnLe (ow s) own'∧P s F'
 | x,k',F',own'=>A x k' F' own'
theorem joinT{C:Ctx}{n:Nat}{k:Kno}{F:Frz}{own:Own}{A:Ex→Kno→Frz→Own→Prop}{S:Type}(kn:S→Kno)(ow:S→Own)(P:S→Frz→Prop){a b:Code}(h1:AW C n a k F own (meetQ kn ow P A))
  (h2:∀s F',Frz.le F F'→P s F'→AW C n b (kn s) F' (ow s) A):AW C n a k F own (thenQ (fun k' F' own'=>AW C n b k' F' own' A) A):=by
 refine AW.mono h1 fun x k' F' own' hF hx=>?_
 cases x with
 | normal=>
  obtain⟨s,q1,q2,q3⟩:=hx
  exact AW.weaken q1 (AW.le q2 (h2 s F' hF q3))
 | exit id=>exact hx
 | ret=>exact hx
theorem joinK{C:Ctx}{n:Nat}{k:Kno}{F:Frz}{own:Own}{A:Ex→Kno→Frz→Own→Prop}{S:Type}(chg:S→Kno)(ow:S→Own)(P:S→Frz→Prop){a b:Code}(h1:AW C n a k F own (joinQ chg k ow P A))
  (h2:∀s F',Frz.le F F'→P s F'→AW C n b (chg s++k) F' (ow s) A):AW C n a k F own (thenQ (fun k' F' own'=>AW C n b k' F' own' A) A):=
 joinT (fun s=>chg s++k) ow P h1 h2
structure PI where
 ks:List Tree
 a:Option Addr
 c:Nat
 Bk:List (Nat×Blk)
 B:List (Nat×Blk)
 e:Int
 l:Nat
structure PO where
 q:Option Addr
 e:Int
 B:List (Nat×Blk)
def initS(f:Fo)(j:Nat):Lst:=⟨fun v=>if v<j then (match f.leaf v with | some t=>[.mk (-1) t []] | none=>[]) else [],[],fun _=>[],[]⟩
theorem init_mem{f:Fo}{j v:Nat}{T:Tree}(h:T∈(initS f j).lists v):v<j∧∃t,f.leaf v=some t∧T=.mk (-1) t []:=by
 unfold initS at h
 simp only at h
 split at h
 ·rename_i hv
  split at h
  ·rename_i t ht
   exact⟨hv,t,ht,List.mem_singleton.1 h⟩
  ·cases h
 ·cases h
theorem init_none{f:Fo}{j v:Nat}(h:f.leaf v=none):(initS f j).lists v=[]:=by
 rw[List.eq_nil_iff_forall_not_mem]
 intro T hT
 obtain⟨_,t,ht,_⟩:=init_mem hT
 rw[h] at ht;cases ht
theorem init_skip{f:Fo}{j:Nat}(h:f.leaf j=none):initS f (j+1)=initS f j:=by
 unfold initS
 simp only[Lst.mk.injEq,and_true]
 funext v
 by_cases e:v=j
 ·subst e
  rw[if_pos (Nat.lt_succ_self _),if_neg (Nat.lt_irrefl _),h]
 ·by_cases h2:v<j
  ·rw[if_pos h2,if_pos zo]
  ·rw[if_neg h2,if_neg zo]
theorem init_at{f:Fo}{j t:Nat}(h:f.leaf j=some t):(initS f (j+1)).lists j=[.mk (-1) t []]:=by
 unfold initS
 simp only
 rw[if_pos (Nat.lt_succ_self _),h]
theorem init_ne{f:Fo}{j v:Nat}(h:v≠j):(initS f (j+1)).lists v=(initS f j).lists v:=by
 unfold initS
 simp only
 by_cases h2:v<j
 ·rw[if_pos h2,if_pos zo]
 ·rw[if_neg h2,if_neg zo]
theorem init_len(f:Fo)(j v:Nat):((initS f j).lists v).length≤1:=by
 unfold initS
 simp only
 split
 ·split<;>simp
 ·simp
theorem init_inv(f:Fo){most:Nat}(hm:1≤most):Inv f most (initS f f.n) [] [] [] where
 ok:=fun c hc=>by cases hc
 snd:=List.nodup_nil
 dsub:=fun c hc=>by cases hc
 psub:=fun c hc=>by cases hc
 dnd:=List.nodup_nil
 pnd:=List.nodup_nil
 qnd:=List.nodup_nil
 wnd:=fun _=>List.nodup_nil
 dq:=fun c hc=>by cases hc
 pq:=fun c hc=>by cases hc
 qw:=fun c hc=>by cases hc
 qok:=fun c hc=>by cases hc
 wok:=fun w c hc=>by cases hc
 cover:=fun c hc=>by cases hc
 next:=fun c hc=>by cases hc
 leafs:=fun v t hv ht=>by
  unfold initS
  simp only
  rw[if_pos hv,ht]
 from_:=fun v hv T hT=>by rw[init_none hv] at hT;cases hT
 len:=fun v=>by have:=init_len f f.n v;omega
 sorted:=fun v=>by
  have h:=init_len f f.n v
  match (initS f f.n).lists v,h with
  | [],_=>exact .nil
  | [a],_=>exact List.pairwise_singleton _ _
  | _::_::_,h=>simp at h
 ord:=fun v hv x hx y hy=>by cases hy
 valid:=fun v T hT=>by
  obtain⟨h1,t,h2,rfl⟩:=init_mem hT
  exact .leaf h1 h2
 full:=fun v hv hl=>by rw[init_none hv] at hl;simp at hl;omega
 small:=fun v T hT=>by
  obtain⟨h1,t,h2,rfl⟩:=init_mem hT
  show ([(-1:Int)]++[]).length≤5000
  simp
def tot(L:Nat→List Tree)(n:Nat):Nat:=((List.range n).map fun v=>(L v).length).sum
theorem tot_le{L:Nat→List Tree}{most:Nat}(h:∀v,(L v).length≤most):∀n,tot L n≤n*most
 | 0=>by simp[tot]
 | n+1=>by
  have ih:=tot_le h n
  have:=h n
  unfold tot at ih ⊢
  rw[List.range_succ,List.map_append,List.sum_append,Nat.add_mul]
  simp
  omega
theorem tot_upd(L:Nat→List Tree){v:Nat}(T:Tree):∀n,tot (updL L v T) n=tot L n+(if v<n then 1 else 0)
 | 0=>by simp[tot]
 | n+1=>by
  have ih:=tot_upd L (v:=v) T n
  unfold tot at ih ⊢
  rw[List.range_succ,List.map_append,List.sum_append,List.map_append,List.sum_append,ih]
  simp only[List.map_cons,List.map_nil,List.sum_cons,List.sum_nil,Nat.add_zero]
  by_cases e:n=v
  ·subst e
   rw[updL_same,List.length_append,if_neg (Nat.lt_irrefl _),if_pos (Nat.lt_succ_self _)]
   simp;omega
  ·rw[updL_ne _ _ e]
   by_cases h:v<n
   ·rw[if_pos h,if_pos zo];omega
   ·rw[if_neg h,if_neg zo];omega
theorem rowsP_rep(F:Frz):∀n,RowsP F (List.replicate n (.slice none 0 0)) [] (List.replicate n [])
 | 0=>.nil
 | n+1=>by
  have:=RowsP.cons (Bld.nil_ tPtr F) (rowsP_rep F n)
  simpa [List.replicate_succ] using this
def pks(Ns:List Node)(j:Nat):Nat:=((Ns.take j).map fun x=>x.packs.length).sum
theorem pks_succ{Ns:List Node}{j:Nat}{x:Node}(h:Ns[j]?=some x):pks Ns (j+1)=pks Ns j+x.packs.length:=by
 unfold pks
 rw[List.take_add_one,h,List.map_append,List.sum_append]
 simp
theorem pks_mono{Ns:List Node}{j k:Nat}(h:j≤k):pks Ns j≤pks Ns k:=by
 induction k with
 | zero => obtain rfl : j = 0 := by omega
           exact Nat.le_refl _
 | succ k ih=>
  rcases Nat.lt_or_ge j (k+1) with h2 | h2
  ·refine Nat.le_trans (ih zo) ?_
   cases hx:Ns[k]? with
   | none=>
    unfold pks
    rw[List.take_add_one,hx];simp
   | some x=>rw[pks_succ hx];omega
  ·obtain rfl:j=k+1:=by omega
   exact Nat.le_refl _
structure TRes(Ns:List Node)(root most:Nat)(L:List Tree)(c:Int):Prop where
 firsts:Firsts (foOf Ns) root most L
 count:CountVal (fun d=>nodeT Ns d root) c
theorem perm_turn3{α:Type}(a b c:α)(l:List α):(a::b::c::l).Perm (c::b::a::l):=
 ((List.Perm.swap b a _).trans (List.Perm.cons b (List.Perm.swap c a l))).trans (List.Perm.swap c b _)
theorem perm_cpU{α:Type}(x a b l:List α):(x++(a++(b++l))).Perm (a++(b++(x++l))):=by
 have h:=(List.perm_append_comm (l₁:=x) (l₂:=a++b)).append_right l
 simpa [List.append_assoc] using h
structure PlT where
 a:Option Addr
 n:Nat
 c:Nat
 B:List (Nat×Blk)
 css:List (List Value)
 bs:List (Nat×Blk)
structure LsS where
 r:LR
 s:Lst
 done:List Cand
theorem ctrees_spec(F:Frz){Ns:List Node}(hf:(foOf Ns).Good)(hok:FOk Ns)(hpr:Prod Ns){na:Option Addr}{nn nc:Nat}(hN:Arr tNode F na nn nc Ns)(root:Nat)(hroot:root<Ns.length)(hrl:(foOf Ns).leaf root=none)(hlp:∀v,(foOf Ns).leaf v≠none→(foOf Ns).packs v=[])(hPS:pks Ns Ns.length≤200000000000){most:Nat}(hm1:1≤most)(hm:most≤100) :
  Abs.Spec CC 46 [.agg ⟨[.slice na nn nc,.int .i64 root]⟩,.int .i64 most] F [] fun F' v o=>∃B',o=[B']∧∃L c,TRes Ns root most L c∧
   (((L.length=most∨(c≠-1∧c≤L.length))∧∃a n d B css bs,v=.tuple ⟨[.slice a n d,.bool true]⟩∧B'=B++bs∧Bld tTC E0 a n d B css∧TOwnL css bs L)∨
    (L.length<most∧(c=-1∨(L.length:Int)<c)∧v=.tuple ⟨[.slice none 0 0,.bool false]⟩)):=by
 have hNl:=hN.len
 have hfew:=hok.few
 refine Abs.Spec.fn (n:=161) Tryz.func46 rfl rfl fun own=>?_
 refine AW.seq (AW.reg ?_)
 refine WT.boxT Z Z Z Z Z Z (fun i2 hi2=>?_)
 refine zB4 ?_
 refine AW.cond Z (fun h=>?_) (fun _=>?_)
 ·exfalso;simp at h;omega
 refine zB4 ?_
 refine AW.draw (ps:=[(0,5),(0,6),(0,7),(3,6),(3,7),(4,6),(4,7)]) Z Z ?_
 refine zB4 ?_
 refine WT.makeT (by_:=24) hT Z Z Z Z Z Z Z Z Z Z Z Z zo (fun lo hlo=>?_)
 refine WT.makeMap Z Z Z Z (fun is his=>?_)
 refine WT.makeMap Z Z Z Z (fun iw hiw=>?_)
 refine zB4 ?_
 refine WT.boxT Z Z Z Z Z Z (fun li hli=>?_)
 refine zB4 ?_
 refine⟨zrA,?_⟩
 refine zB6 ?_
 have htr0:∀(v:Nat) (ps:List Nat),(List.replicate nn ([]:List Nat))[v]?=some ps→ShL F ps ((initS (foOf Ns) 0).lists v):=fun v ps hv=>by
  have e:(initS (foOf Ns) 0).lists v=[]:=by unfold initS;simp
  rw[e]
  rw[List.getElem?_replicate] at hv
  split at hv
  ·cases hv;exact .nil
  ·cases hv
 have h0:LOk (⟨li,na,nn,nc,root,most,lo,bif nn==0 then 0 else 1,is,iw⟩:LP) Ns F (⟨none,0,0,[],[],List.replicate nn (.slice none 0 0),[],List.replicate nn [],[],[],[],[],[],[]⟩:LR) (initS (foOf Ns) 0):=
  ⟨hN,(Bld.nil_ _ _).gb,List.Perm.refl _,fun i h1 h2=>by simp at h2,rowsP_rep F nn,by simp,htr0,rfl,fun c=>by simp[initS,Abs.look],rfl,List.nodup_nil,.nil,fun w=>rfl⟩
 refine AW.range (S:=LR) (fun _=>[]) (fun r=>lrB (⟨li,na,nn,nc,root,most,lo,bif nn==0 then 0 else 1,is,iw⟩:LP) r::[(i2,.cells false [.slice na nn nc,.int .i64 root])]::own)
  (fun j r G=>LOk (⟨li,na,nn,nc,root,most,lo,bif nn==0 then 0 else 1,is,iw⟩:LP) Ns G r (initS (foOf Ns) j)) nn (⟨none,0,0,[],[],List.replicate nn (.slice none 0 0),[],List.replicate nn [],[],[],[],[],[],[]⟩:LR)
  Z Z Z Z Z Z Z Z Z zo rfl rfl (fun _=>rfl) (fun _=>rfl) sM (OwnLe.flat ?_) h0 ?_ ?_
 ·simp only[lrB,lB,lrL,lCells,List.flatten_cons,List.cons_append,List.nil_append]
  exact List.Perm.cons _ (perm_turn3 _ _ _ _)
 ·intro j r F1 hF1 hj hl
  obtain⟨x,hx⟩:∃x,Ns[j]?=some x:=⟨_,gE zo⟩
  obtain⟨ps,hps⟩:∃ps,r.pss[j]?=some ps:=⟨_,gE (by have:=hl.rlen;show j<r.pss.length;rw[this];exact hj)⟩
  obtain⟨va,vn,vc,VB,b1,b2,hvk,hbs,hVB,hput⟩:=hl.rows.split hps
  have hvl:=hl.rows.len
  have hrl2:r.pss.length=nn:=hl.rlen
  have hleaf:(foOf Ns).leaf j=if x.key.sym.term=true then some x.key.sym.n else none:=by unfold foOf;simp only[hx]
  have hN1:=hl.nodes
  refine zB4 ?_
  refine WT.idxL hT hN1 Z Z Z Z Z Z Z Z Z zo (fun z hz b7 off7 ro7 cs7 lx7 hb7 hp7 hrel7=>?_)
  rw[hx] at hz;cases hz
  obtain⟨pa,pn,pc,rfl,hpa⟩:=hrel7
  refine zB4 ?_
  refine WT.allocT hT Z Z Z Z Z Z (fun i8 hi8=>?_)
  refine zB4 ?_
  refine AW.cond Z (fun ht=>?_) (fun ht=>?_)
  ·rw[if_pos ht] at hleaf
   rw[show lrB (⟨li,na,nn,nc,root,most,lo,bif nn==0 then 0 else 1,is,iw⟩:LP) r=lrB (⟨li,na,nn,nc,root,most,lo,bif nn==0 then 0 else 1,is,iw⟩:LP) { r with bs:=b1++(VB++b2) } by rw[←hbs]]
   refine AW.le (OwnLe.cons _ (OwnLe.trans (OwnLe.cons _ (OwnLe.cons _ (own_wsplit b1 VB b2 _))) (lrB_own (⟨li,na,nn,nc,root,most,lo,bif nn==0 then 0 else 1,is,iw⟩:LP) { r with bs:=b1++(VB++b2) } _))) ?_
   refine AW.draw (ps:=[(3,9),(3,10)]) Z Z ?_
   refine zB6 ?_
   refine WT.boxT Z Z Z Z Z Z (fun i56 hi56=>?_)
   refine WT.buildT hT Z Z Z Z Z Z Z Z Z Z Z Z Z Z (fun i57 hi57=>?_)
   refine WT.idxA (j:=j) (s:=1) hT Z Z Z Z Z Z Z Z Z hj ?_
   refine WT.storeAt hT 4 0 Z Z Z Z Z Z Z Z Z Z (by show 0+j*1<r.vs.length;omega) Z Z ?_
   rw[show 0+j*1=j by omega]
   refine WT.freezeAll 1 Z Z (fun F2 hF2 hB2=>?_)
   refine zB6 ?_
   refine⟨zrA,?_⟩
   have hl2:=hl.mono hF2
   have hlf:(foOf Ns).leaf j=some x.key.sym.n:=hleaf
   have hsh:Sh F2 i56 (.mk (-1) x.key.sym.n []):=.mk (ps:=[]) (hB2 i56 _ me) (Arr.nil_ _ _) .nil
   have hb57:Bld tPtr F1 (some ⟨i57,0,none⟩) 1 1 [(i57,.cells false [.pointer (some ⟨i56,0,none⟩)])] [i56]:=⟨rfl,.inr ⟨i57,_,rfl,rfl,rfl,Cells.single (R:=tPtr) rfl,by decide⟩⟩
   skip
   refine⟨{ r with vs:=r.vs.set j (.slice (some ⟨i57,0,none⟩) 1 1),bs:=b1++([(i57,.cells false [.pointer (some ⟨i56,0,none⟩)])]++b2),pss:=r.pss.set j [i56] },sM,?_,⟨hl2.nodes,hl2.q,hl2.qp,hl2.qh,(hput _ _ _ _ _ hb57).any,by rw[List.length_set];exact hl2.rlen,fun v us hv=>?_,hl2.se,hl2.sl,hl2.we,hl2.wn,hl2.ws,hl2.wg⟩⟩
   ·refine OwnLe.trans (OwnLe.trans (lrB_own' (⟨li,na,nn,nc,root,most,lo,bif nn==0 then 0 else 1,is,iw⟩:LP) _ _) (OwnLe.cons _ (OwnLe.cons _ (own_wjoin b1 _ b2 _)))) ?_
    refine OwnLe.trans (b:=[(i57,.cells false [.pointer (some ⟨i56,0,none⟩)])]::((li,.cells false [.slice na nn nc,.int .i64 root,.int .i64 most,.slice (some ⟨lo,0,none⟩) nn (bif nn==0 then 0 else 1),.map (some is),.map (some iw),.slice r.qa r.qn r.qc])::r.qB)::[(lo,.cells false (r.vs.set j (.slice (some ⟨i57,0,none⟩) 1 1)))]::(b1++b2)::[(is,.map r.se)]::[(iw,.map r.we)]::r.wbs::[(i2,.cells false [.slice na nn nc,.int .i64 root])]::own) (OwnLe.flat ?_) (OwnLe.cons _ (OwnLe.skip _ (OwnLe.skip _ (OwnLe.cons _ (OwnLe.cons _ (OwnLe.cons _ (OwnLe.skip _ oR)))))))
    simp only[List.flatten_cons]
    exact perm_cpT _ _ _ _ _
   ·have hv:(r.pss.set j [i56])[v]?=some us:=hv
    by_cases e:v=j
    ·subst e
     rw[List.getElem?_set_self zo] at hv
     cases hv
     rw[init_at hlf]
     exact .cons hsh .nil
    ·rw[List.getElem?_set_ne (fun e2=>e e2.symm)] at hv
     rw[init_ne e]
     exact hl2.trees v us hv
  ·rw[if_neg (by rw[show x.key.sym.term=false from ht];simp)] at hleaf
   refine zB4 ?_
   refine⟨r,sM,OwnLe.skip _ oR,?_⟩
   show LOk (⟨li,na,nn,nc,root,most,lo,bif nn==0 then 0 else 1,is,iw⟩:LP) Ns _ r (initS (foOf Ns) (j+1))
   rw[init_skip hleaf]
   exact hl
 intro r0 F1 hF1 hl0
 have hl0:LOk (⟨li,na,nn,nc,root,most,lo,bif nn==0 then 0 else 1,is,iw⟩:LP) Ns F1 r0 (initS (foOf Ns) nn):=hl0
 have hI0:=init_inv (foOf Ns) hm1
 rw[show (foOf Ns).n=nn from hNl.symm] at hI0
 refine zB4 ?_
 refine AW.range (S:=TakeS) (fun _=>[]) (fun z=>lrB (⟨li,na,nn,nc,root,most,lo,bif nn==0 then 0 else 1,is,iw⟩:LP) z.r::[(i2,.cells false [.slice na nn nc,.int .i64 root])]::own)
  (fun j z G=>LOk (⟨li,na,nn,nc,root,most,lo,bif nn==0 then 0 else 1,is,iw⟩:LP) Ns G z.r z.s∧Inv (foOf Ns) most z.s [] [] []∧z.s.lists=(initS (foOf Ns) nn).lists∧z.s.seen.length≤pks Ns j∧∀v,v<j→(foOf Ns).leaf v=none→∀p,p<((foOf Ns).packs v).length→(⟨v,p,0,0,0,0⟩:Cand)∈z.s.seen) nn ⟨r0,initS (foOf Ns) nn⟩
  Z Z Z Z Z Z Z Z Z zo rfl rfl (fun _=>rfl) (fun _=>rfl) sM oR ⟨hl0,hI0,rfl,Nat.zero_le _,fun v hv=>by omega⟩ ?_ ?_
 ·intro j z F2 hF2 hj hP
  obtain⟨ul,uI,uL,un,ub⟩:=hP
  obtain⟨x,hx⟩:∃x,Ns[j]?=some x:=⟨_,gE zo⟩
  have hN2:=ul.nodes
  have hpx:(foOf Ns).packs j=x.packs:=by unfold foOf;simp only[hx]
  have hpk:=pks_succ hx
  have hpk2:=pks_mono (Ns:=Ns) (show j+1≤Ns.length by omega)
  have hxp:=hok.packs x (gM hx)
  refine zB4 ?_
  refine WT.idxL hT hN2 Z Z Z Z Z Z Z Z Z zo (fun y hy b7 off7 ro7 cs7 lx7 hb7 hp7 hrel7=>?_)
  rw[hx] at hy;cases hy
  obtain⟨pa,pn,pc,rfl,hpa⟩:=hrel7
  have hpal:=hpa.len
  refine zB4 ?_
  refine WT.allocT hT Z Z Z Z Z Z (fun i10 hi10=>?_)
  refine zB4 ?_
  refine AW.range (S:=TakeS) (fun _=>[]) (fun z=>[(i10,.cells false [.bool x.key.sym.term,.int .i64 x.key.sym.n,.int .i64 x.key.frm,.int .i64 x.key.to,.slice pa pn pc])]::lrB (⟨li,na,nn,nc,root,most,lo,bif nn==0 then 0 else 1,is,iw⟩:LP) z.r::[(i2,.cells false [.slice na nn nc,.int .i64 root])]::own)
   (fun q z G=>LOk (⟨li,na,nn,nc,root,most,lo,bif nn==0 then 0 else 1,is,iw⟩:LP) Ns G z.r z.s∧Inv (foOf Ns) most z.s [] [] []∧z.s.lists=(initS (foOf Ns) nn).lists∧z.s.seen.length≤pks Ns j+q∧(∀v,v<j→(foOf Ns).leaf v=none→∀p,p<((foOf Ns).packs v).length→(⟨v,p,0,0,0,0⟩:Cand)∈z.s.seen)∧∀p,p<q→(⟨j,p,0,0,0,0⟩:Cand)∈z.s.seen) pn z
   Z Z Z Z Z Z Z Z Z zo rfl rfl (fun _=>rfl) (fun _=>rfl) sM oR ⟨ul,uI,uL,un,ub,fun p hp=>by omega⟩ ?_ ?_
  ·intro q z F3 hF3 hq hP
   obtain⟨vl,vI,vL,vn,vb,vc⟩:=hP
   have hlj:(foOf Ns).leaf j=none:=by
    cases he:(foOf Ns).leaf j with
    | none=>rfl
    | some t=>
     have:=hlp j (by rw[he];simp)
     rw[hpx] at this
     rw[this] at hpal
     simp at hpal;omega
   have hc:CandOk (foOf Ns) most ⟨j,q,0,0,0,0⟩:=by
    refine⟨by show j<Ns.length;omega,hlj,⟨_,by unfold packAt;rw[hpx];exact gE (show q<x.packs.length by omega)⟩,fun r0 h0=>?_,fun p _ i r0 _ h0=>?_⟩
    ·simp[Cand.ranks] at h0;omega
    ·have:=gM h0
     simpa [Cand.ranks] using this
   have hTop:∀T,candTree (foOf Ns) z.s.lists ⟨j,q,0,0,0,0⟩=some T→∀v,(foOf Ns).leaf v=none→∀x∈z.s.lists v,tle x T:=fun T _ v hv x hx=>by
    rw[vL,init_none hv] at hx;cases hx
   refine zB4 ?_
   refine WT.call1F 1 Tryz.func71 Z Z Z Z Z Z Z (fun _=>rfl) (lfirst_spec F3 vl hf vI hc hTop (by show most≤1000;omega) zo hfew (.pointer none) rfl) (fun F4 v B4 hF4 hv=>?_)
   obtain⟨r',rfl,hl4⟩:=hv
   refine zB4 ?_
   obtain⟨f1,f2,f3,f4⟩:=first_lists (foOf Ns) z.s ⟨j,q,0,0,0,0⟩
   refine⟨⟨r',firstS (foOf Ns) z.s ⟨j,q,0,0,0,0⟩⟩,sM,OwnLe.refl _,hl4,vI.first_ hf hc hTop,f1.trans vL,by show (firstS _ _ _).seen.length≤pks Ns j+(q+1);omega,fun v hv hl p hp=>f2 _ (vb v hv hl p hp),fun p hp=>?_⟩
   rcases Nat.lt_or_ge p q with h1 | h1
   ·exact f2 _ (vc p h1)
   ·obtain rfl:p=q:=by omega
    exact f3
  ·intro z F3 hF3 hP
   obtain⟨vl,vI,vL,vn,vb,vc⟩:=hP
   skip
   refine⟨z,sM,OwnLe.skip _ oR,vl,vI,vL,by rw[hpk,←hpal];exact vn,fun v hv hl p hp=>?_⟩
   rcases Nat.lt_or_ge v j with h1 | h1
   ·exact vb v h1 hl p hp
   ·obtain rfl:v=j:=by omega
    rw[hpx] at hp
    have hp:p<x.packs.length:=hp
    exact vc p (by rw[hpal];exact hp)
 intro z F2 hF2 hP
 obtain⟨ul,uI,uL,un,ub⟩:=hP
 have hbase:BaseIn (foOf Ns) z.s:=fun v hv hl p hp=>ub v (by have:v<Ns.length:=hv;omega) hl p hp
 refine zB4 ?_
 refine joinK (S:=LsS) (fun _=>[]) (fun z=>lrB (⟨li,na,nn,nc,root,most,lo,bif nn==0 then 0 else 1,is,iw⟩:LP) z.r::[(i2,.cells false [.slice na nn nc,.int .i64 root])]::own) (fun z G=>LOk (⟨li,na,nn,nc,root,most,lo,bif nn==0 then 0 else 1,is,iw⟩:LP) Ns G z.r z.s∧Firsts (foOf Ns) root most (z.s.lists root)) ?_ ?_
 ·refine AW.block ?_
  refine AW.loopR (S:=LsS) (fun _=>[]) (fun z=>lrB (⟨li,na,nn,nc,root,most,lo,bif nn==0 then 0 else 1,is,iw⟩:LP) z.r::[(i2,.cells false [.slice na nn nc,.int .i64 root])]::own)
   (fun z G=>LOk (⟨li,na,nn,nc,root,most,lo,bif nn==0 then 0 else 1,is,iw⟩:LP) Ns G z.r z.s∧Inv (foOf Ns) most z.s z.done [] []∧BaseIn (foOf Ns) z.s∧z.s.seen.length≤pks Ns Ns.length+4*tot z.s.lists nn) (fun z=>pks Ns Ns.length+4*(nn*most)+1-z.done.length) ⟨z.r,z.s,[]⟩
   sM oR ⟨ul,uI,hbase,by show z.s.seen.length≤pks Ns Ns.length+4*tot z.s.lists nn;rw[hNl] at un;omega⟩ ?_
  intro y F3 hF3 hP3
  obtain⟨yl,yI,yb,yn⟩:=hP3
  have htot:=tot_le yI.len nn
  have hdl:y.done.length≤y.s.seen.length:=sub_len _ _ yI.dnd yI.dsub
  have hmm:nn*most≤1000000*100:=Nat.mul_le_mul zo hm
  have hql:=yl.q.len
  have hqp:=yl.qp.length_eq
  have hqf:=yI.q_few
  obtain⟨ps,hps⟩:∃ps,y.r.pss[root]?=some ps:=⟨_,gE (by have:y.r.pss.length=nn:=yl.rlen;omega)⟩
  obtain⟨va,vn,vc,VB,b1,b2,hvk,hbs,hVB,hput⟩:=yl.rows.split hps
  have htr:=yl.trees root ps hps
  have hvn:=hVB.len
  have htrl:=htr.len
  have hrm:=yI.len root
  refine zB4 ?_
  refine WT.le (lrB_own (⟨li,na,nn,nc,root,most,lo,bif nn==0 then 0 else 1,is,iw⟩:LP) y.r _) ?_
  skip
  refine WT.split 87 Z (fun hq0=>?_) (fun hq0=>?_)
  rotate_left
  ·have hq0:y.r.qn=0:=by simp at hq0;omega
   refine zB6 ?_
   refine AW.cond Z (fun h=>(by cases h)) (fun _=>?_)
   refine AW.exit ?_
   refine⟨y,sM,lrB_own' (⟨li,na,nn,nc,root,most,lo,bif nn==0 then 0 else 1,is,iw⟩:LP) y.r _,yl,yI.firsts hf yb hrl (.inr fun a ha=>?_)⟩
   have:y.s.q=[]:=List.eq_nil_of_length_eq_zero zo
   rw[this] at ha;cases ha
  have hq1:0<y.r.qn:=by simpa using hq0
  refine zB7 ?_
  refine WT.idxA (j:=root) (s:=1) hT Z Z Z Z Z Z Z Z Z (show root<nn by omega) ?_
  refine WT.loadAt hT 1 Z Z Z Z Z Z me Z Z (v:=.slice va vn vc) (by rw[Nat.zero_add,Nat.mul_one];exact hvk) ?_
  refine zB6 ?_
  refine AW.cond Z (fun hc=>?_) (fun hc=>?_)
  rotate_left
  ·have hc:most≤vn:=by simp at hc;omega
   refine AW.exit ?_
   exact⟨y,sM,lrB_own' (⟨li,na,nn,nc,root,most,lo,bif nn==0 then 0 else 1,is,iw⟩:LP) y.r _,yl,yI.firsts hf yb hrl (.inl zo)⟩
  have hc:vn<most:=by simp at hc;omega
  obtain⟨qn,hqn⟩:∃qn,y.r.qn=qn+1:=⟨y.r.qn-1,by omega⟩
  have yq:=yl.q
  rw[hqn] at yq
  rw[hqn]
  refine zB7 ?_
  refine AW.block ?_
  refine zB7 ?_
  refine WT.ifaceT hT Z Z Z Z Z Z ?_
  refine WT.call1F 0 Tryz.func72 Z Z Z Z Z Z Z (fun _=>rfl) (hpop_spec F3 (lrL (⟨li,na,nn,nc,root,most,lo,bif nn==0 then 0 else 1,is,iw⟩:LP)) yq zo yl.qh) (fun F4 v B4 hF4 hv=>?_)
  obtain⟨qB2,Q2,⟨c,T⟩,l,rfl,hQ2,hperm,hheap,hmin,rfl,tp,rfl,hsh,hTb⟩:=hv
  have yl4:=yl.mono hF4
  have yI2:Inv (foOf Ns) most { y.s with q:=(c,T)::Q2 } y.done [] []:=yI.perm (yl.qp.symm.trans hperm)
  have hl2:LOk (⟨li,na,nn,nc,root,most,lo,bif nn==0 then 0 else 1,is,iw⟩:LP) Ns F4 { y.r with qn:=qn,qB:=qB2,Q:=Q2 } { y.s with q:=Q2 }:=⟨yl4.nodes,hQ2,List.Perm.refl _,hheap,yl4.rows,yl4.rlen,yl4.trees,yl4.se,yl4.sl,yl4.we,yl4.wn,yl4.ws,yl4.wg⟩
  skip
  refine WT.assertT hT Z Z Z Z Z Z ?_
  unfold candV
  refine zB7 ?_
  refine WT.allocT hT Z Z Z Z Z Z (fun i12 hi12=>?_)
  have hsh0:=hsh
  cases hsh with
  | @mk _ tr tm tks ta tn tc tps g1 g2 g3=>
  refine zB7 ?_
  refine AW.cond Z (fun hc5=>?_) (fun hc5=>?_)
  ·have hc5:5000<(Tree.mk tr tm tks).pre.length:=by simp at hc5;omega
   refine AW.exit ?_
   refine⟨⟨{ y.r with qn:=qn,qB:=qB2,Q:=Q2 },{ y.s with q:=Q2 },[]⟩,sM,OwnLe.skip _ (lrB_own' (⟨li,na,nn,nc,root,most,lo,bif nn==0 then 0 else 1,is,iw⟩:LP) { y.r with qn:=qn,qB:=qB2,Q:=Q2 } _),hl2,yI2.firsts hf yb hrl (.inr fun a ha=>?_)⟩
   rcases List.mem_cons.1 ha with rfl | ha
   ·exact hc5
   ·have:=wle_len (hmin a ha)
    dsimp only at this
    omega
  ·have hc5:(Tree.mk tr tm tks).pre.length≤5000:=by simp at hc5;omega
   have hcn:c.node<nn:=by
    have:=(yI2.ok c (yI2.qok (c,_) me).1).node
    have:c.node<Ns.length:=this
    omega
   refine zB7 ?_
   refine WT.le (OwnLe.cons _ (lrB_own' (⟨li,na,nn,nc,root,most,lo,bif nn==0 then 0 else 1,is,iw⟩:LP) { y.r with qn:=qn,qB:=qB2,Q:=Q2 } _)) ?_
   refine WT.call1F 1 Tryz.func73 Z Z Z Z Z Z Z (fun _=>rfl) (nodeTk_spec F4 hl2 hf yI2 yb hmin hc5 hsh0 (by show most≤1000;omega) zo hfew) (fun F5 v B5 hF5 hv=>?_)
   obtain⟨r',s',rfl,hl5,hI5,hb5,hcase⟩:=hv
   have hI5:Inv (foOf Ns) most s' (c::y.done) [] []:=hI5
   have hseen5:s'.seen.length≤pks Ns Ns.length+4*tot s'.lists nn:=by
    rcases hcase with ⟨_,e1,e2⟩ | ⟨_,e1,e2⟩
    ·rw[e1,e2];exact yn
    ·rw[e1,tot_upd,if_pos hcn];omega
   have hdl5:(c::y.done).length≤s'.seen.length:=sub_len _ _ hI5.dnd hI5.dsub
   have htot5:=tot_le hI5.len nn
   refine zB4 ?_
   refine⟨⟨r',s',c::y.done⟩,?_,sM,OwnLe.skip _ oR,hl5,hI5,hb5,hseen5⟩
   show pks Ns Ns.length+4*(nn*most)+1-(c::y.done).length<pks Ns Ns.length+4*(nn*most)+1-y.done.length
   simp only[List.length_cons] at hdl5 ⊢
   omega
 intro y F3 hF3 hP3
 obtain⟨yl,yF⟩:=hP3
 obtain⟨ps,hps⟩:∃ps,y.r.pss[root]?=some ps:=⟨_,gE (by have:y.r.pss.length=nn:=yl.rlen;omega)⟩
 obtain⟨va,vn,vc,VB,b1,b2,hvk,hbs,hVB,hput⟩:=yl.rows.split hps
 have htr:=yl.trees root ps hps
 have hvn:=hVB.len
 have htrl:=htr.len
 have hrm:=yF.len
 refine zB4 ?_
 refine WT.le (lrB_own (⟨li,na,nn,nc,root,most,lo,bif nn==0 then 0 else 1,is,iw⟩:LP) y.r _) ?_
 refine WT.idxA (j:=root) (s:=1) hT Z Z Z Z Z Z Z Z Z (show root<nn by omega) ?_
 refine WT.loadAt hT 1 Z Z Z Z Z Z me Z Z (v:=.slice va vn vc) (by rw[Nat.zero_add,Nat.mul_one];exact hvk) ?_
 refine zB7 ?_
 have hN3:=yl.nodes
 refine WT.callV Tryz.func52 Z Z Z Z Z Z (count_spec _ hok hpr hN3 root hroot) (fun v hv=>?_)
 obtain⟨cn,rfl,hcn⟩:=hv
 refine zB7 ?_
 refine WT.split 132 Z (fun hc=>?_) (fun hc=>?_)
 rotate_left
 ·have hc:vn=most:=by simp at hc;omega
  refine zB7 ?_
  refine AW.cond Z (fun h=>(by cases h)) (fun _=>?_)
  refine zB7 ?_
  refine WT.idxA (j:=root) (s:=1) hT Z Z Z Z Z Z Z Z Z (show root<nn by omega) ?_
  refine WT.loadAt hT 1 Z Z Z Z Z Z me Z Z (v:=.slice va vn vc) (by rw[Nat.zero_add,Nat.mul_one];exact hvk) ?_
  refine zB7 ?_
  refine AW.range (S:=PlT) (fun s=>[(16,.slice s.a s.n s.c)]) (fun s=>s.B::s.bs::((li,.cells false [.slice na nn nc,.int .i64 root,.int .i64 most,.slice (some ⟨lo,0,none⟩) nn (bif nn==0 then 0 else 1),.map (some is),.map (some iw),.slice y.r.qa y.r.qn y.r.qc])::y.r.qB)::[(lo,.cells false y.r.vs)]::y.r.bs::[(is,.map y.r.se)]::[(iw,.map y.r.we)]::y.r.wbs::[(i2,.cells false [.slice na nn nc,.int .i64 root])]::own)
   (fun j s G=>Bld tTC E0 s.a s.n s.c s.B s.css∧TOwnL s.css s.bs ((y.s.lists root).take j)) vn ⟨none,0,0,[],[],[]⟩
   Z Z Z Z Z Z Z Z Z zo rfl rfl (fun _=>rfl) (fun _=>rfl) sM (OwnLe.flat (List.Perm.refl _)) ⟨Bld.nil_ _ _,.nil⟩ ?_ ?_
  ·intro j u F5 hF5 hj hP5
   obtain⟨hb,hL⟩:=hP5
   have hLl:=hL.len
   have hbl5:=hb.len
   rw[List.length_take] at hLl
   have hVB5:=(hVB.mono hF5).gb
   obtain⟨q,hq⟩:∃q,ps[j]?=some q:=⟨_,gE zo⟩
   obtain⟨k,hk⟩:∃k,(y.s.lists root)[j]?=some k:=⟨_,gE zo⟩
   have hkm:=gM hk
   have hsm:=yF.small k hkm
   have hsq:=(htr.at_ hq hk).mono hF5
   refine zB4 ?_
   refine WT.gidx hT hVB5 Z Z Z Z Z Z Z Z Z hj (fun b9 hb9=>?_)
   refine WT.gld1 (x:=q) hT 4 hVB5 hb9 hq Z Z Z Z Z Z (fun z hz=>by rw[hbs];exact List.mem_append_right _ (List.mem_append_left _ hz)) Z Z Z (fun v hv=>?_)
   obtain rfl:v=_:=(List.singleton_inj.1 hv)
   refine zB4 ?_
   refine WT.callN Tryz.func74 Z Z Z Z Z Z (plain_spec _ k (Nat.lt_succ_self _) (yF.valid k hkm).plain zo F5 q hsq) (fun F6 v B6 hF6 hv=>?_)
   obtain⟨cs,rfl,hcs⟩:=hv
   obtain⟨hc3,hc1⟩:=hcs.shape
   obtain⟨x1,x2,x3,rfl⟩:∃x1 x2 x3,cs=[x1,x2,x3]:=by
    match cs,hc3 with
    | [x1,x2,x3],_=>exact⟨x1,x2,x3,rfl⟩
   skip
   refine WT.buildT hT Z Z Z Z Z Z Z Z Z Z Z Z Z Z (fun i9 hi9=>?_)
   refine WT.appendT (R:=tTC) (ys:=[[x1,x2,x3]]) hT 2 (bldT hb) Z (fun _=>rfl) Z Z Z Z Z Z Z Z Z Z Z (fun h0 s0=>news_own hT s0 0 Z Z Z Z) (Cells.single (R:=tTC) ⟨rfl,rfl,hc1⟩) Z (by decide) zom (fun a3 c3 B3 hB3=>?_)
   refine zB4 ?_
   refine⟨⟨a3,u.n+1,c3,B3,u.css++[[x1,x2,x3]],u.bs++B6⟩,sM,?_,bldT hB3,by rw[List.take_add_one,hk];exact hL.snoc hcs⟩
   refine OwnLe.skip _ (OwnLe.flat ?_)
   simp only[List.flatten_cons,List.append_assoc]
   exact perm_cpU _ _ _ _
  ·intro u F5 hF5 hP5
   obtain⟨hb,hL⟩:=hP5
   rw[List.take_of_length_le zo] at hL
   refine zB4 ?_
   refine AW.le (own2:=(u.B++u.bs)::own) (OwnLe.trans (OwnLe.flat (List.Perm.of_eq (by simp))) (OwnLe.cons _ (OwnLe.cons _ (OwnLe.skip _ (OwnLe.skip _ (OwnLe.skip _ (OwnLe.skip _ (OwnLe.skip _ (OwnLe.skip _ (OwnLe.skip _ oR)))))))))) ?_
   exact AW.ret ⟨_,[_],⟨_,_,rfl,⟨_,_,rfl,rfl,rfl⟩,rfl⟩,zsb,_,rfl,_,_,⟨yF,hcn⟩,.inl ⟨(.inl zo),_,_,_,u.B,u.css,u.bs,rfl,rfl,hb,hL⟩⟩
 have hc:vn<most:=by simpa using hc
 refine zB7 ?_
 refine WT.split 135 Z (fun hc2=>?_) (fun hc2=>?_)
 ·have hc2:cn=-1:=by simpa using hc2
  refine zB7 ?_
  refine AW.cond Z (fun _=>?_) (fun h=>(by cases h))
  refine zB7 ?_
  refine AW.le (own2:=[]::own) (OwnLe.trans (OwnLe.flat (List.Perm.refl _)) (OwnLe.skip _ (OwnLe.skip _ (OwnLe.skip _ (OwnLe.skip _ (OwnLe.skip _ (OwnLe.skip _ (OwnLe.skip _ oR)))))))) ?_
  exact AW.ret ⟨_,[_],⟨_,_,rfl,⟨_,_,rfl,rfl,rfl⟩,rfl⟩,zsb,_,rfl,_,_,⟨yF,hcn⟩,.inr ⟨by omega,.inl hc2,rfl⟩⟩
 have hc2:cn≠-1:=by simpa using hc2
 refine zB7 ?_
 refine AW.cond Z (fun hc3=>?_) (fun hc3=>?_)
 ·have hc3:(vn:Int)<cn:=by simpa using hc3
  refine zB7 ?_
  refine AW.le (own2:=[]::own) (OwnLe.trans (OwnLe.flat (List.Perm.refl _)) (OwnLe.skip _ (OwnLe.skip _ (OwnLe.skip _ (OwnLe.skip _ (OwnLe.skip _ (OwnLe.skip _ (OwnLe.skip _ oR)))))))) ?_
  exact AW.ret ⟨_,[_],⟨_,_,rfl,⟨_,_,rfl,rfl,rfl⟩,rfl⟩,zsb,_,rfl,_,_,⟨yF,hcn⟩,.inr ⟨by omega,.inr (by rw[htrl,←hvn];exact hc3),rfl⟩⟩
 ·have hc3:cn≤(vn:Int):=by simpa using hc3
  refine zB7 ?_
  refine WT.idxA (j:=root) (s:=1) hT Z Z Z Z Z Z Z Z Z (show root<nn by omega) ?_
  refine WT.loadAt hT 1 Z Z Z Z Z Z me Z Z (v:=.slice va vn vc) (by rw[Nat.zero_add,Nat.mul_one];exact hvk) ?_
  refine zB7 ?_
  refine AW.range (S:=PlT) (fun s=>[(16,.slice s.a s.n s.c)]) (fun s=>s.B::s.bs::((li,.cells false [.slice na nn nc,.int .i64 root,.int .i64 most,.slice (some ⟨lo,0,none⟩) nn (bif nn==0 then 0 else 1),.map (some is),.map (some iw),.slice y.r.qa y.r.qn y.r.qc])::y.r.qB)::[(lo,.cells false y.r.vs)]::y.r.bs::[(is,.map y.r.se)]::[(iw,.map y.r.we)]::y.r.wbs::[(i2,.cells false [.slice na nn nc,.int .i64 root])]::own)
   (fun j s G=>Bld tTC E0 s.a s.n s.c s.B s.css∧TOwnL s.css s.bs ((y.s.lists root).take j)) vn ⟨none,0,0,[],[],[]⟩
   Z Z Z Z Z Z Z Z Z zo rfl rfl (fun _=>rfl) (fun _=>rfl) sM (OwnLe.flat (List.Perm.refl _)) ⟨Bld.nil_ _ _,.nil⟩ ?_ ?_
  ·intro j u F5 hF5 hj hP5
   obtain⟨hb,hL⟩:=hP5
   have hLl:=hL.len
   have hbl5:=hb.len
   rw[List.length_take] at hLl
   have hVB5:=(hVB.mono hF5).gb
   obtain⟨q,hq⟩:∃q,ps[j]?=some q:=⟨_,gE zo⟩
   obtain⟨k,hk⟩:∃k,(y.s.lists root)[j]?=some k:=⟨_,gE zo⟩
   have hkm:=gM hk
   have hsm:=yF.small k hkm
   have hsq:=(htr.at_ hq hk).mono hF5
   refine zB4 ?_
   refine WT.gidx hT hVB5 Z Z Z Z Z Z Z Z Z hj (fun b9 hb9=>?_)
   refine WT.gld1 (x:=q) hT 4 hVB5 hb9 hq Z Z Z Z Z Z (fun z hz=>by rw[hbs];exact List.mem_append_right _ (List.mem_append_left _ hz)) Z Z Z (fun v hv=>?_)
   obtain rfl:v=_:=(List.singleton_inj.1 hv)
   refine zB4 ?_
   refine WT.callN Tryz.func74 Z Z Z Z Z Z (plain_spec _ k (Nat.lt_succ_self _) (yF.valid k hkm).plain zo F5 q hsq) (fun F6 v B6 hF6 hv=>?_)
   obtain⟨cs,rfl,hcs⟩:=hv
   obtain⟨hc3,hc1⟩:=hcs.shape
   obtain⟨x1,x2,x3,rfl⟩:∃x1 x2 x3,cs=[x1,x2,x3]:=by
    match cs,hc3 with
    | [x1,x2,x3],_=>exact⟨x1,x2,x3,rfl⟩
   skip
   refine WT.buildT hT Z Z Z Z Z Z Z Z Z Z Z Z Z Z (fun i9 hi9=>?_)
   refine WT.appendT (R:=tTC) (ys:=[[x1,x2,x3]]) hT 2 (bldT hb) Z (fun _=>rfl) Z Z Z Z Z Z Z Z Z Z Z (fun h0 s0=>news_own hT s0 0 Z Z Z Z) (Cells.single (R:=tTC) ⟨rfl,rfl,hc1⟩) Z (by decide) zom (fun a3 c3 B3 hB3=>?_)
   refine zB4 ?_
   refine⟨⟨a3,u.n+1,c3,B3,u.css++[[x1,x2,x3]],u.bs++B6⟩,sM,?_,bldT hB3,by rw[List.take_add_one,hk];exact hL.snoc hcs⟩
   refine OwnLe.skip _ (OwnLe.flat ?_)
   simp only[List.flatten_cons,List.append_assoc]
   exact perm_cpU _ _ _ _
  ·intro u F5 hF5 hP5
   obtain⟨hb,hL⟩:=hP5
   rw[List.take_of_length_le zo] at hL
   refine zB4 ?_
   refine AW.le (own2:=(u.B++u.bs)::own) (OwnLe.trans (OwnLe.flat (List.Perm.of_eq (by simp))) (OwnLe.cons _ (OwnLe.cons _ (OwnLe.skip _ (OwnLe.skip _ (OwnLe.skip _ (OwnLe.skip _ (OwnLe.skip _ (OwnLe.skip _ (OwnLe.skip _ oR)))))))))) ?_
   exact AW.ret ⟨_,[_],⟨_,_,rfl,⟨_,_,rfl,rfl,rfl⟩,rfl⟩,zsb,_,rfl,_,_,⟨yF,hcn⟩,.inl ⟨(.inr ⟨hc2,by rw[htrl,←hvn];exact hc3⟩),_,_,_,u.B,u.css,u.bs,rfl,rfl,hb,hL⟩⟩
def WTrees(g:Gram)(w:List Nat)(most:Nat)(L:List Tree)(c:Int):Prop:=
 CountVal (fun d=>symT g w d ⟨false,g.start⟩ 0 w.length) c∧
  (((∀E,EndsOf g w E→stepB w E ⟨false,g.start⟩ 0 w.length=false)∧L=[])∨(most=0∧L=[])∨
   ∃E S,EndsOf g w E∧stepB w E ⟨false,g.start⟩ 0 w.length=true∧Keys g w E (rootKey g w) S∧Firsts (foOf (S.map (mkNode g w E S))) (place S (rootKey g w)) most L)
def OkC(most:Nat)(L:List Tree)(c:Int):Prop:=L.length=most∨(c≠-1∧c≤L.length)
def FailC(most:Nat)(L:List Tree)(c:Int):Prop:=L.length<most∧(c=-1∨(L.length:Int)<c)
theorem still_of_bound{T:Nat→Nat}(hm:∀d,T d≤T (d+1))(hb:¬Unbound T):∃n,Still T n:=by
 have aux:∀k d,(∀e,T e<T d+k)→∃n,Still T n:=by
  intro k
  induction k with
  | zero=>intro d h;exact absurd (h d) zo
  | succ k ih=>
   intro d h
   by_cases h2:∃e,d≤e∧T d<T e
   ·obtain⟨e,h3,h4⟩:=h2
    exact ih e fun e'=>by have:=h e';omega
   ·refine⟨T d,d,fun e he=>?_⟩
    have h3:=mono_le hm he
    rcases Nat.lt_or_ge (T d) (T e) with h4 | h4
    ·exact(h2 ⟨e,he,h4⟩).elim
    ·omega
 by_cases h:∃B,∀d,T d<B
 ·obtain⟨B,h⟩:=h
  exact aux B 0 fun e=>by have:=h e;omega
 ·refine(hb fun B=>?_).elim
  by_cases h2:∃d,B≤T d
  ·exact h2
  ·exact(h ⟨B,fun d=>by
    rcases Nat.lt_or_ge (T d) B with h3 | h3
    ·exact h3
    ·exact(h2 ⟨d,h3⟩).elim⟩).elim
section
variable {g:Gram}{w:List Nat}{most:Nat}{L:List Tree}{c:Int}
theorem WTrees.valid(h:WTrees g w most L c):∀T∈L,TreeOf g w ⟨false,g.start⟩ T 0 w.length:=fun T hT=>by
 rcases h.2 with ⟨_,rfl⟩ | ⟨_,rfl⟩ | ⟨E,S,hE,hst,hK,hF⟩
 ·cases hT
 ·cases hT
 ·exact NT.tree hK hst _ T (rootKey g w) (Nat.lt_succ_self _) hK.first (hF.valid T hT)
theorem WTrees.len(h:WTrees g w most L c):L.length≤most:=by
 rcases h.2 with ⟨_,rfl⟩ | ⟨_,rfl⟩ | ⟨E,S,hE,hst,hK,hF⟩
 ·exact Nat.zero_le _
 ·exact Nat.zero_le _
 ·exact hF.len
theorem WTrees.small(h:WTrees g w most L c):∀T∈L,T.pre.length≤5000:=fun T hT=>by
 rcases h.2 with ⟨_,rfl⟩ | ⟨_,rfl⟩ | ⟨E,S,hE,hst,hK,hF⟩
 ·cases hT
 ·cases hT
 ·exact hF.small T hT
end
theorem ctreesNone_spec(F:Frz)(m:Nat):Abs.Spec CC 46 [.agg ⟨[.slice none 0 0,.int .i64 (-1)]⟩,.int .i64 (m:Nat)] F [] fun F' v o=>o=[]∧v=.tuple ⟨[.slice none 0 0,.bool true]⟩:=by
 refine Abs.Spec.fn (n:=161) Tryz.func46 rfl rfl fun own=>?_
 refine AW.seq (AW.reg ?_)
 refine WT.boxT Z Z Z Z Z Z (fun i2 hi2=>?_)
 refine zB4 ?_
 refine AW.cond Z (fun _=>?_) (fun h=>(by cases h))
 refine zB4 ?_
 exact AW.ret ⟨_,[],⟨_,_,rfl,⟨_,_,rfl,rfl,rfl⟩,rfl⟩,zsb,rfl,rfl⟩
theorem ctreesZero_spec(F:Frz)(na:Option Addr)(nn nc root:Nat):Abs.Spec CC 46 [.agg ⟨[.slice na nn nc,.int .i64 root]⟩,.int .i64 ((0:Nat):Int)] F [] fun F' v o=>o=[]∧v=.tuple ⟨[.slice none 0 0,.bool true]⟩:=by
 refine Abs.Spec.fn (n:=161) Tryz.func46 rfl rfl fun own=>?_
 refine AW.seq (AW.reg ?_)
 refine WT.boxT Z Z Z Z Z Z (fun i2 hi2=>?_)
 refine zB4 ?_
 refine AW.cond Z (fun _=>?_) (fun h=>(by cases h))
 refine zB4 ?_
 exact AW.ret ⟨_,[],⟨_,_,rfl,⟨_,_,rfl,rfl,rfl⟩,rfl⟩,zsb,rfl,rfl⟩
theorem Spec.addNil{f:FuncId}{args:List Value}{F:Frz}{P:Frz→Value→Prop}(h:Abs.Spec CC f args F [] fun F' v o=>o=[]∧P F' v):Abs.Spec CC f args F [] fun F' v o=>o=[[]]∧P F' v:=by
 intro own h0 hs
 obtain⟨v,h',F',oout,h1,h2,h3,rfl,h4⟩:=h own h0 hs
 exact⟨v,h',F',[[]],h1,h2,by simpa [St] using h3,rfl,h4⟩
theorem coreTrees_spec(F:Frz)(g:Gram)(hg:Valid g){w:List Nat}(hw12:w.length≤12){E:List (List Nat)}(hE:EndsOf g w E){fa:Option Addr}{fn fc:Nat}{fr:Int}(hV:ForestV g w E F (.agg ⟨[.slice fa fn fc,.int .i64 fr]⟩)){most:Nat}(hm:most≤100) :
  Abs.Spec CC 46 [.agg ⟨[.slice fa fn fc,.int .i64 fr]⟩,.int .i64 (most:Nat)] F [] fun F' v o=>∃B',o=[B']∧∃L c,WTrees g w most L c∧
   ((OkC most L c∧∃a n d B css bs,v=.tuple ⟨[.slice a n d,.bool true]⟩∧B'=B++bs∧Bld tTC E0 a n d B css∧TOwnL css bs L)∨(FailC most L c∧v=.tuple ⟨[.slice none 0 0,.bool false]⟩)):=by
 rcases hV with ⟨hst,hv⟩ | ⟨hst,S,a,n,c,hv,hK,hA⟩
 ·cases hv
  refine(Spec.addNil (ctreesNone_spec F most)).mono fun F' v o _ ⟨ho,hv⟩=>⟨[],ho,[],0,⟨?_,.inl ⟨fun E' hE'=>by rw[ends_uniqT hE' hE];exact hst,rfl⟩⟩,.inl ⟨.inr ⟨by decide,by simp⟩,none,0,0,[],[],[],hv,rfl,Bld.nil_ _ _,.nil⟩⟩
  refine .inl ⟨0,still_zero fun d=>?_,rfl⟩
  rcases Nat.eq_zero_or_pos (symT g w d ⟨false,g.start⟩ 0 w.length) with e | e
  ·exact e
  ·have:=(step_der hE (Nat.zero_le _)).2 (symT_der e)
   rw[hst] at this;cases this
 ·cases hv
  have hroot:=root_good hg w
  have hrm:=hK.first
  have hpl:=place_at hrm
  have hlt:=(gS hpl).1
  have e:(fun d=>nodeT (S.map (mkNode g w E S)) d (place S (rootKey g w)))=fun d=>symT g w d ⟨false,g.start⟩ 0 w.length:=by
   funext d
   exact node_sym hg hE hK hroot hst d _ hrm
  have hok:=nodes_ok hg hw12 hK hroot
  have hpr:=nodes_prod hg hE hK hroot hst
  rcases Nat.eq_zero_or_pos most with h0 | h0
  ·subst h0
   obtain⟨cc,hcc⟩:∃c,CountVal (fun d=>symT g w d ⟨false,g.start⟩ 0 w.length) c:=by
    by_cases hb:Unbound (fun d=>symT g w d ⟨false,g.start⟩ 0 w.length)
    ·exact⟨-1,.inr ⟨hb,rfl⟩⟩
    ·obtain⟨n,hn⟩:=still_of_bound (fun d=>symT_mono g w d ⟨false,g.start⟩ 0 w.length) hb
     exact⟨_,.inl ⟨n,hn,rfl⟩⟩
   exact(Spec.addNil (ctreesZero_spec F fa fn fc _)).mono fun F' v o _ ⟨ho,hv⟩=>⟨[],ho,[],cc,⟨hcc,.inr (.inl ⟨rfl,rfl⟩)⟩,.inl ⟨.inl rfl,none,0,0,[],[],[],hv,rfl,Bld.nil_ _ _,.nil⟩⟩
  ·refine(ctrees_spec F (fo_good hg hK hst) hok hpr hA (place S (rootKey g w)) (by rw[List.length_map];exact hlt) (by rw[(foOf_at hpl).1];rfl) (leaf_nopacks hK) ?_ h0 hm).mono fun F' v o _ ⟨B',ho,L,c,⟨hF,hc⟩,hres⟩=>⟨B',ho,L,c,⟨by rw[←e];exact hc,.inr (.inr ⟨E,S,hE,hst,hK,hF⟩)⟩,?_⟩
   ·have:=pks_packSum (g:=g) (w:=w) (E:=E) (S:=S) S
    unfold pks
    rw[List.take_length,List.map_map]
    show (S.map fun k=>(mkNode g w E S k).packs.length).sum≤_
    rw[this]
    exact Nat.le_trans (few_packs hg hw12 hK.nodup hK.reach) (by decide)
   ·rcases hres with ⟨h1,h2⟩ | ⟨h1,h2,h3⟩
    ·exact .inl ⟨h1,h2⟩
    ·exact .inr ⟨⟨h1,h2⟩,h3⟩
def TreesRes(g:Gram)(w:List Nat)(most:Nat)(v:Value)(o:List (List (Nat×Blk))):Prop:=
 ∃B',o=[B']∧∃L c,WTrees g w most L c∧
   ((OkC most L c∧∃a n d B css bs,v=.tuple ⟨[.slice a n d,.int .i64 0]⟩∧B'=B++bs∧Bld tTC E0 a n d B css∧TOwnL css bs L)∨(FailC most L c∧v=.tuple ⟨[.slice none 0 0,.int .i64 2]⟩))
theorem mtrees_spec(F:Frz)(hL:Laid F)(g:Gram)(hg:Valid g){ga:Option Addr}{gm gc:Nat}(hr:Arr tRule F ga gm gc g.rules){b:Option Addr}{n d:Nat}{w:List Nat}(hw:Arr tNat F b n d w)(hw12:w.length≤12)(hw2:∀t∈w,t<g.terms){most:Nat}(hm:most≤100) :
  Abs.Spec CC 11 [.agg ⟨gramCells g ga gm gc⟩,.slice b n d,.int .i64 (most:Nat)] F [] fun F' v o=>TreesRes g w most v o:=by
 unfold gramCells
 refine Abs.Spec.fn (n:=34) Tryz.func11 rfl rfl fun own=>?_
 refine AW.seq (AW.reg ?_)
 refine WT.boxT Z Z Z Z Z Z (fun i3 hi3=>?_)
 refine zB4 ?_
 refine WT.callV Tryz.func42 Z Z Z Z Z Z (mcheck_spec _ g hg hr hw hw12 hw2) (fun v hv=>?_)
 subst hv
 refine zB4 ?_
 refine AW.cond Z (fun h=>(by cases h)) (fun h=>?_)
 refine zB4 ?_
 refine AW.cond Z (fun h=>(by exfalso;simp at h;omega)) (fun h=>?_)
 refine zB4 ?_
 refine WT.callF0 Tryz.func47 Z Z Z Z Z Z (meanOf_spec _ hL g hg hr hw hw12) (fun F2 v hF2 hv=>?_)
 obtain⟨E,hE,hv⟩:=hv
 have hform:∃fa fn fc fr,v=.agg ⟨[.slice fa fn fc,.int .i64 fr]⟩:=by
  rcases hv with ⟨_,rfl⟩ | ⟨_,S,a,n',c,rfl,_⟩
  ·exact⟨_,_,_,_,rfl⟩
  ·exact⟨_,_,_,_,rfl⟩
 obtain⟨fa,fn,fc,fr,rfl⟩:=hform
 refine zB4 ?_
 refine WT.callN Tryz.func46 Z Z Z Z Z Z (coreTrees_spec _ g hg hw12 hE hv hm) (fun F3 v B3 hF3 hv3=>?_)
 obtain⟨L,c,hW,hres⟩:=hv3
 rcases hres with ⟨hok,a,n',d',B,css,bs,rfl,rfl,hB,hT'⟩ | ⟨hf,rfl⟩
 ·refine zB4 ?_
  refine AW.cond Z (fun h=>(by cases h)) (fun h=>?_)
  refine zB4 ?_
  refine AW.ret ⟨_,[_],⟨_,_,rfl,⟨_,_,rfl,rfl,rfl⟩,rfl⟩,List.Sublist.cons_cons _ zsb,_,rfl,L,c,hW,.inl ⟨hok,_,_,_,_,_,_,rfl,rfl,hB,hT'⟩⟩
 ·refine zB4 ?_
  refine AW.cond Z (fun _=>?_) (fun h=>(by cases h))
  refine zB4 ?_
  refine AW.ret ⟨_,[_],⟨_,_,rfl,⟨_,_,rfl,rfl,rfl⟩,rfl⟩,List.Sublist.cons_cons _ zsb,_,rfl,L,c,hW,.inr ⟨hf,rfl⟩⟩
theorem partL_ok{cs:List Value}{off n:Nat}{l:List Value}(h:partL cs off n=some l):l=(cs.drop off).take n∧l.length=n:=by
 unfold partL at h
 cases e:(((cs.drop off).take n).length==n) with
 | false=>simp only[e,cond_false] at h;cases h
 | true=>
  simp only[e,cond_true] at h
  obtain rfl:=Option.some.inj h
  exact⟨rfl,eq_of_beq e⟩
theorem partL_app{cs:List Value}{off n m:Nat}{l1 l2:List Value}(h1:partL cs off n=some l1)(h2:partL cs (off+n) m=some l2):partL cs off (n+m)=some (l1++l2):=by
 obtain⟨e1,k1⟩:=partL_ok h1
 obtain⟨e2,k2⟩:=partL_ok h2
 have e:(cs.drop off).take (n+m)=l1++l2:=by rw[List.take_add,List.drop_drop,←e1,←e2]
 unfold partL
 simp only[e]
 have:((l1++l2).length==n+m)=true:=by simp[k1,k2]
 rw[this];rfl
theorem arr_part{α:Type}{R:Ty α}{F:Frz}{a:Option Addr}{n c:Nat}{xs:List α}(hx:Arr R F a n c xs)(hn:0<n) :
  ∃b off ro cs ds,a=some ⟨b,off,none⟩∧F b=some (.cells ro cs)∧partL cs off (n*R.size)=some ds∧Cells R F ds xs:=by
 have hl:=hx.len
 obtain⟨x0,h0⟩:∃x,xs[0]?=some x:=⟨_,gE zo⟩
 obtain⟨b,off,ro,cs,l,h1,h2,h3,h4⟩:=hx.el 0 x0 h0
 have main:∀k,k≤xs.length→0<k→∃ds,partL cs off (k*R.size)=some ds∧Cells R F ds (xs.take k):=by
  intro k
  induction k with
  | zero=>intro _ h;omega
  | succ k ih=>
   intro hk _
   obtain⟨y,hy⟩:∃x,xs[k]?=some x:=⟨_,gE zo⟩
   obtain⟨b',off',ro',cs',l',g1,g2,g3,g4⟩:=hx.el k y hy
   rw[h1] at g1
   injection g1 with g1;injection g1 with g1 g1'
   subst g1;subst g1'
   rw[h2] at g2
   injection g2 with g2;injection g2 with g2 g2'
   subst g2'
   have ht:xs.take (k+1)=xs.take k++[y]:=by rw[List.take_add_one,hy];rfl
   rw[ht]
   by_cases hk0:k=0
   ·subst hk0
    exact⟨l',by simpa using g3,by simpa using Cells.single g4⟩
   ·obtain⟨ds,d1,d2⟩:=ih zo zo
    exact⟨ds++l',by rw[Nat.add_mul,Nat.one_mul];exact partL_app d1 g3,d2.append (Cells.single g4)⟩
 obtain⟨ds,d1,d2⟩:=main n zo hn
 rw[hl,List.take_length] at d2
 exact⟨b,off,ro,cs,ds,h1,h2,d1,d2⟩
theorem news_part{C:Ctx}{T:RT}{F:Frz}{own:Own}(hT:rowsOk C T=true){h:Heap}(s:St F own h){b off:Nat}{ro:Bool}{cs ds:List Value}{e sz len c t e':Nat}{r:Row}(hb:F b=some (.cells ro cs))(hr:rowOf T t=some r)(hd:r.d=.slice e')
  (hp:partL cs off (len*sz)=some ds):newsA C h e sz (some t) (.slice (some ⟨b,off,none⟩) len c)=some (len,ds):=by
 have hb:=s.frz _ _ hb
 by_cases hz:len=0
 ·subst hz
  have:=(partL_ok hp).1
  rw[Nat.zero_mul,List.take_zero] at this
  subst this
  simp[newsA,und_slice hT hr hd,plainNewsA,lenOfA,firstA]
 ·simp only[newsA,und_slice hT hr hd,plainNewsA,lenOfA,firstA,cellsAt,hb,hp,show (len==0)=false by simpa using hz]
  rfl
theorem arr_one{F:Frz}{b:Nat}{ro:Bool}{x:Nat}(h:F b=some (.cells ro [.int .i64 x])):Arr tNat F (some ⟨b,0,none⟩) 1 1 [x]:=by
 refine⟨rfl,.inr rfl,fun h=>(by cases h),fun h=>(by cases h),?_,?_⟩
 ·intro p hp
  injection hp with hp
  subst hp
  rfl
 ·intro j y hj
  have h0:j=0:=by have:=(gS hj).1;simp at this;omega
  subst h0
  obtain rfl:x=y:=by simpa using hj
  exact⟨b,0,ro,_,_,rfl,h,rfl,rfl⟩
theorem word_one{w:List Nat}{i x:Nat}(h:w[i]?=some x):(w.take (i+1)).drop i=[x]:=by
 rw[List.take_add_one,h]
 have:=(gS h).1
 rw[List.drop_append_of_le_length (by simp;omega),List.drop_of_length_le (by simp;omega)]
 rfl
theorem word_app{w:List Nat}{i m j:Nat}(h1:i≤m)(h2:m≤j)(h3:m≤w.length):(w.take j).drop i=(w.take m).drop i++(w.take j).drop m:=by
 have:w.take j=w.take m++(w.take j).drop m:=by
  have:=(List.take_append_drop m (w.take j)).symm
  rw[List.take_take,Nat.min_eq_left h2] at this
  exact this
 conv=>lhs;rw[this]
 rw[List.drop_append_of_le_length (by simp;omega)]
structure RS where
 xs:List Nat
 a:Option Addr
 c:Nat
 B:List (Nat×Blk)
theorem reads_spec(g:Gram)(hg:Valid g){a:Option Addr}{m c:Nat}(w:List Nat)(hw:w.length≤12):∀(d:Nat) (F:Frz) (hr:Arr tRule F a m c g.rules) (cs:List Value) (t:Tree) (s:Sym) (i j:Nat),(tTreeN d).rel F cs t→TreeOf g w s t i j→i≤w.length→
  Abs.Spec CC 49 [.agg ⟨gramCells g a m c⟩,.agg ⟨[.bool s.term,.int .i64 s.n]⟩,.agg ⟨cs⟩] F [] fun F' v o=>o=[]∧∃a n c,v=.tuple ⟨[.slice a n c,.bool true]⟩∧Arr tNat F' a n c ((w.take j).drop i)∧(n=0→a=none)
 | 0,_,_,_,_,_,_,_,h,_,_=>h.elim
 | d+1,F,hr,cs,t,s,i,j,h,ht,hi=>by
  obtain⟨tr,tt,ks,ta,tn,tc,rfl,rfl,hk,hkb⟩:=h
  have hkl:=hk.len
  have hrl:=hr.len
  have hgr:=hg.range.rules
  unfold gramCells
  refine Abs.Spec.fn (n:=107) Tryz.func49 rfl rfl fun own=>?_
  refine AW.seq (AW.reg ?_)
  refine WT.boxT Z Z Z Z Z Z (fun i3 hi3=>?_)
  skip
  refine WT.boxT Z Z Z Z Z Z (fun i4 hi4=>?_)
  skip
  refine WT.boxT Z Z Z Z Z Z (fun i5 hi5=>?_)
  refine zB4 ?_
  cases ht with
  | leaf hw1=>
   obtain rfl:tn=0:=hkl
   refine AW.cond Z (fun _=>?_) (fun h=>(by cases h))
   refine AW.seq (AW.draw (ps:=[(4,2),(5,2),(8,2),(10,2),(11,2),(15,2),(16,2),(17,2)]) Z Z ?_)
   refine zB4 ?_
   refine WT.buildT hT Z Z Z Z Z Z Z Z Z Z Z Z Z Z (fun i17 hi17=>?_)
   refine zB4 ?_
   refine WT.split 21 Z (fun _=>?_) (fun h=>(by simp at h))
   skip
   refine WT.split 28 Z (fun _=>?_) (fun h=>(by simp at h))
   refine zB4 ?_
   refine⟨zrC,?_⟩
   refine AW.freezeAll 0 Z Z (fun F2 hF2 hB2=>?_)
   have hi17:=hB2 i17 _ me
   skip
   exact AW.ret ⟨_,[],⟨_,_,rfl,⟨_,_,rfl,rfl,rfl⟩,rfl⟩,zsb,rfl,_,1,1,rfl,(by rw[word_one hw1];exact arr_one hi17),fun h=>(by cases h)⟩
  | node hrk hts=>
   rename_i k r
   have hkn:=(gS hrk).1
   have hle:=hts.len
   refine AW.cond Z (fun h=>(by cases h)) (fun _=>?_)
   refine zB4 ?_
   refine WT.split 37 Z (fun h=>(by simp at h;omega)) (fun _=>?_)
   skip
   refine WT.split 45 Z (fun h=>(by simp at h;omega)) (fun _=>?_)
   refine zB4 ?_
   refine WT.split 50 Z (fun h=>(by simp at h)) (fun _=>?_)
   skip
   refine WT.idxL hT hr Z Z Z Z Z Z Z Z Z hkn (fun r1 hr1 b1 off ro1 cs lx hb hp1 hrel=>?_)
   obtain rfl:r1=r:=by rw[hrk] at hr1;exact(Option.some.inj hr1).symm
   obtain⟨b2,n2,d2,rfl,hr4⟩:=hrel
   have hr4l:=hr4.len
   refine zB4 ?_
   refine WT.split 62 Z (fun h=>(by simp at h)) (fun _=>?_)
   refine zB4 ?_
   refine WT.idxL hT hr Z Z Z Z Z Z Z Z Z hkn (fun r2 hr2 b1' off' ro1' cs' lx' hb' hp1' hrel'=>?_)
   obtain rfl:r2=r1:=by rw[hrk] at hr2;exact(Option.some.inj hr2).symm
   obtain⟨b2',n2',d2',rfl,hr4'⟩:=hrel'
   have hr4l':=hr4'.len
   refine zB4 ?_
   refine AW.cond Z (fun h=>(by simp at h;omega)) (fun _=>?_)
   refine zB4 ?_
   refine AW.range (S:=RS) (fun s=>[(8,.slice s.a s.xs.length s.c)]) (fun s=>s.B::[(i5,.cells false [.int .i64 k,.int .i64 (0:Nat),.slice ta tn tc])]::[(i4,.cells false [.bool false,.int .i64 r2.left])]::[(i3,.cells false [.int .i64 g.terms,.int .i64 g.nons,.int .i64 g.start,.slice a m c])]::own)
    (fun q s G=>Bld tNat G s.a s.xs.length s.c s.B s.xs∧∃mm,s.xs=(w.take mm).drop i∧i≤mm∧mm≤w.length∧TreesOf g w (r2.right.drop q) (ks.drop q) mm j∧(s.xs.length=0→s.a=none)) tn ⟨[],none,0,[]⟩
    Z Z Z Z Z Z Z Z Z zo rfl rfl (fun _=>rfl) (fun _=>rfl) sM (OwnLe.flat (List.Perm.refl _)) ⟨Bld.nil_ _ _,i,by rw[List.drop_of_length_le (by simp;omega)],Nat.le_refl _,hi,hts,fun _=>rfl⟩ ?_ ?_
   ·intro q s F1 hF1 hq hP
    obtain⟨hb,mm,hxs,h1,h2,hts2,hnil⟩:=hP
    have hk1:=hk.mono hF1
    have hrA:=hr.mono hF1
    refine zB6 ?_
    refine WT.idxL hT hk1 Z Z Z Z Z Z Z Z (by rw[tTreeN_size];rfl) zo (fun x hx b off ro cs lx hb1 hp1 hrel=>?_)
    rw[tTreeN_size] at hp1
    obtain⟨xr,xt,xk,xa,xn,xc,rfl,rfl,hxa,hxb⟩:∃xr xt xk xa xn xc,x=Tree.mk xr xt xk∧lx=[.int .i64 xr,.int .i64 (xt:Nat),.slice xa xn xc]∧Arr tTree F1 xa xn xc xk∧xk.length≤1000000:=by
     cases x with
     | mk xr xt xk=>
      obtain⟨xa,xn,xc,h1,h2,h3⟩:=tTree_cases ⟨d,hrel⟩
      exact⟨xr,xt,xk,xa,xn,xc,rfl,h1,h2,h3⟩
    refine zB6 ?_
    refine WT.allocT hT Z Z Z Z Z Z (fun i10 hi10=>?_)
    refine zB6 ?_
    refine WT.idxL hT hrA Z Z Z Z Z Z Z Z Z hkn (fun r3 hr3 b3 off3 ro3 cs3 lx3 hb3 hp3 hrel3=>?_)
    obtain rfl:r3=r2:=by rw[hrk] at hr3;exact(Option.some.inj hr3).symm
    obtain⟨b4,n4,d4,rfl,hr5⟩:=hrel3
    have hr5l:=hr5.len
    refine zB6 ?_
    refine WT.idxL hT hr5 Z Z Z Z Z Z Z Z Z zo (fun y hy b6 off6 ro6 cs6 lx6 hb6 hp6 hrel6=>?_)
    obtain rfl:lx6=_:=hrel6
    obtain⟨hq1,hy1⟩:=gS hy
    obtain⟨hq2,hx1⟩:=gS hx
    rw[List.drop_eq_getElem_cons hq1,List.drop_eq_getElem_cons hq2,hy1,hx1] at hts2
    obtain⟨m2,hto,hts3⟩:∃m2,TreeOf g w y (Tree.mk xr xt xk) mm m2∧TreesOf g w (r3.right.drop (q+1)) (ks.drop (q+1)) m2 j:=by
     cases hts2 with
     | cons h h2=>exact⟨_,h,h2⟩
    have hm2:=hto.le
    have hm2w:=hm2.2 h2
    refine zB6 ?_
    refine WT.callF0 Tryz.func49 Z Z Z Z Z Z (reads_spec g hg w hw d _ hrA _ _ y mm m2 hrel hto h2) (fun F2 v hF2 hv=>?_)
    obtain⟨ya,yn,yc,rfl,hya,hyz⟩:=hv
    have hb:=hb.mono hF2
    have hyl:=hya.len
    have hyl2:yn≤12:=by rw[hyl];simp;omega
    have hsl:s.xs.length≤12:=by rw[hxs];simp;omega
    refine zB6 ?_
    refine AW.cond Z (fun h=>(by cases h)) (fun _=>?_)
    refine zB6 ?_
    rcases Nat.eq_zero_or_pos yn with hz | hz
    ·subst hz
     have hm0:(w.take m2).drop mm=[]:=List.length_eq_zero_iff.1 hyl.symm
     obtain rfl:=hyz rfl
     refine WT.append0 hT Z Z Z Z Z Z Z Z Z Z Z Z Z (fun h0 s0=>rfl) (by decide) zom ?_
     refine zB6 ?_
     exact⟨⟨s.xs,s.a,s.c,s.B⟩,sM,OwnLe.skip _ oR,hb,m2,by rw[hxs,word_app h1 hm2.1 h2,hm0,List.append_nil],by omega,hm2w,hts3,hnil⟩
    ·obtain⟨b7,off7,ro7,cs7,ds7,rfl,hb7,hp7,hc7⟩:=arr_part hya hz
     refine WT.appendT (ys:=(w.take m2).drop mm) hT 1 hb Z (fun _=>rfl) Z Z Z Z Z Z Z Z Z Z Z (fun h0 s0=>news_part hT s0 hb7 Z Z hp7) hc7 hyl ⟨hz,by decide,by decide⟩ zom (fun a3 c3 B3 hB3=>?_)
     have hl2:(s.xs++(w.take m2).drop mm).length=s.xs.length+yn:=by rw[List.length_append,←hyl]
     rw[←hl2] at hB3 ⊢
     refine zB6 ?_
     exact⟨⟨s.xs++(w.take m2).drop mm,a3,c3,B3⟩,sM,OwnLe.skip _ oR,hB3,m2,by rw[hxs,←word_app h1 hm2.1 h2],by omega,hm2w,hts3,fun h=>absurd h (by rw[hl2];omega)⟩
   ·intro s F1 hF1 hP
    obtain⟨hb,mm,hxs,h1,h2,hts2,hnil⟩:=hP
    rw[List.drop_of_length_le zo,List.drop_of_length_le zo] at hts2
    have:mm=j:=by cases hts2;rfl
    subst this
    refine AW.freezeAll 0 Z Z (fun F2 hF2 hB2=>?_)
    have hx:=hb.frozen hF2 hB2
    refine zB4 ?_
    exact AW.ret ⟨_,[],⟨_,_,rfl,⟨_,_,rfl,rfl,rfl⟩,rfl⟩,zsb,rfl,_,_,_,rfl,hxs▸hx,hnil⟩
theorem isTree_spec(g:Gram)(hg:Valid g)(F:Frz){a:Option Addr}{m c:Nat}(hr:Arr tRule F a m c g.rules)(w:List Nat)(hw:w.length≤12){cs:List Value}{t:Tree}{j:Nat}(ht:tTree.rel F cs t)(hto:TreeOf g w ⟨false,g.start⟩ t 0 j)
  {b:Option Addr} {n d:Nat} (hb:Arr tNat F b n d (w.take j)) :
  Abs.Spec CC 14 [.agg ⟨gramCells g a m c⟩,.slice b n d,.agg ⟨cs⟩] F [] fun _ v o=>o=[]∧v=.bool true:=by
 obtain⟨dd,hdd⟩:=id ht
 obtain⟨tr,tt,tk⟩:=t
 obtain⟨ta,tn,tc,rfl,hta,htb⟩:=tTree_cases ht
 unfold gramCells
 refine Abs.Spec.fn (n:=24) Tryz.func14 rfl rfl fun own=>?_
 refine AW.seq (AW.reg ?_)
 refine WT.boxT Z Z Z Z Z Z (fun i3 hi3=>?_)
 skip
 refine WT.boxT Z Z Z Z Z Z (fun i5 hi5=>?_)
 refine zB4 ?_
 refine WT.callF0 Tryz.func49 Z Z Z Z Z Z (reads_spec g hg w hw dd _ hr _ _ ⟨false,g.start⟩ 0 j hdd hto (Nat.zero_le _)) (fun F1 v hF1 hv=>?_)
 obtain⟨ya,yn,yc,rfl,hya,_⟩:=hv
 rw[List.drop_zero] at hya
 have hyl:=hya.len
 have hyn:yn≤1000000:=by rw[hyl];simp;omega
 refine zB4 ?_
 refine WT.callV Tryz.func45 Z Z Z Z Z Z (equal_spec _ hya (hb.mono hF1) hyn) (fun v hv=>?_)
 rw[decide_eq_true rfl] at hv
 subst hv
 refine zB4 ?_
 exact AW.ret ⟨_,[],⟨_,_,rfl,rfl,rfl⟩,zsb,rfl,rfl⟩
structure PrS where
 a:Option Addr
 n:Nat
 c:Nat
 B:List (Nat×Blk)
theorem lbad_spec(F:Frz)(c:Nat)(hc:c≤1000):Abs.Spec CC 81 [ci c] F [] fun _ v o=>o=[]∧v=.bool ((fun c=>decide (1000<c)) c):=by
 refine Abs.Spec.fn (n:=9) Tryz.func81 rfl rfl fun own=>?_
 have h0:decide ((c:Int)<0)=false:=decide_eq_false zo
 refine zB4 ?_
 refine AW.ret ⟨_,[],⟨_,_,rfl,rfl,rfl⟩,zsb,rfl,?_⟩
 show Value.bool (decide ((c:Int) > 1000))=Value.bool (decide (1000<c))
 rw[decide_eq_false zo,decide_eq_false zo]
def BestRes(g:Gram)(w:List Nat)(cost:List Nat)(F:Frz)(v:Value):Prop:=∃E,EndsOf g w E∧
 ((stepB w E ⟨false,g.start⟩ 0 w.length=false∧∃a n c,v=.tuple ⟨[.slice a n c,.int .i64 0]⟩∧Arr tNat F a n c [])∨
  (stepB w E ⟨false,g.start⟩ 0 w.length=true∧∃S,Keys g w E (rootKey g w) S∧ValueResO cost (S.map (mkNode g w E S)) (place S (rootKey g w)) F v))
theorem best_spec(F:Frz)(hL:Laid F)(g:Gram)(hg:Valid g){ga:Option Addr}{gm gc:Nat}(hr:Arr tRule F ga gm gc g.rules){w:List Nat}(hw12:w.length≤12)(hw2:∀t∈w,t<g.terms)
  {fa:Option Addr} {fn fc:Nat} {fr:Int} (hf:FV g w F fa fn fc fr) {ca:Option Addr} {cn cc:Nat} {cost:List Nat} (hc:Arr tNat F ca cn cc cost) (hcm:∀y∈cost,y≤1000) (hcl:cost.length=g.rules.length)
  (hsm:∀E S,EndsOf g w E→Keys g w E (rootKey g w) S→stepB w E ⟨false,g.start⟩ 0 w.length=true→∀k i y,some y∈roundToO cost (S.map (mkNode g w E S)) (valsO cost (S.map (mkNode g w E S)) k) i→y≤1000000) :
  Abs.Spec CC 60 [.agg ⟨gramCells g ga gm gc⟩,.agg ⟨[.slice fa fn fc,.int .i64 fr]⟩,.slice ca cn cc,.int .i64 1] F [] fun F' v o=>o=[]∧BestRes g w cost F' v:=by
 have hcs:=fcount_spec F hL g hg hr hw12 hw2 hf
 have hcln:=hc.len
 have hrl:=hr.len
 have hgr:=hg.range.rules
 unfold gramCells at hcs ⊢
 refine Abs.Spec.fn (n:=63) Tryz.func60 rfl rfl fun own=>?_
 refine AW.seq (AW.reg ?_)
 refine WT.boxT Z Z Z Z Z Z (fun i4 hi4=>?_)
 refine WT.boxT Z Z Z Z Z Z (fun i5 hi5=>?_)
 refine WT.boxT Z Z Z Z Z Z (fun i6 hi6=>?_)
 refine WT.boxT Z Z Z Z Z Z (fun i7 hi7=>?_)
 refine zB7 ?_
 refine WT.callV Tryz.func16 Z Z Z Z Z Z hcs (fun v hv=>?_)
 obtain⟨c,rfl,_⟩:=hv
 refine zB7 ?_
 refine AW.cond Z (fun h=>(by cases h)) (fun _=>?_)
 refine zB7 ?_
 refine WT.callV Tryz.func80 Z Z Z Z Z Z (numAny_spec _ hc zo (fun c=>decide (1000<c)) (first:=[]) (capt:=[]) Tryz.func81 Z (fun x hx=>lbad_spec _ x (hcm x hx))) (fun v hv=>?_)
 rw[show cost.any (fun c=>decide (1000<c))=false by simp only[List.any_eq_false,decide_eq_true_eq];exact fun x hx=>by have:=hcm x hx;omega] at hv
 subst hv
 obtain rfl:cn=gm:=by omega
 refine zB7 ?_
 refine WT.know (v':=.bool false) 33 Z (by congr 1;simp) ?_
 refine zB7 ?_
 refine AW.cond Z (fun h=>(by cases h)) (fun _=>?_)
 refine zB7 ?_
 refine WT.buildT hT Z Z Z Z Z Z Z Z Z Z Z Z Z Z (fun i44 hi44=>?_)
 refine WT.freezeAll 0 Z Z (fun F1 hF1 hB1=>?_)
 have h44:Arr tNat F1 (some ⟨i44,0,none⟩) 1 1 [0]:=arr_ci (hB1 i44 _ me) rfl rfl
 refine zB7 ?_
 refine WT.allocT hT Z Z Z Z Z Z (fun i13 hi13=>?_)
 refine zB7 ?_
 refine WT.freezeAll 2 Z Z (fun F2 hF2 hB2=>?_)
 refine WT.freezeAll 3 Z Z (fun F3 hF3 hB3=>?_)
 have hF13:=(hF1.trans hF2).trans hF3
 have hC:LeastC F3 i7 i6 ca cn cc cost:=⟨hF3 _ _ (hB2 i7 _ me),hB3 i6 _ me,hc.mono hF13⟩
 have hvs:=value3_spec F3 (hL.mono hF13) g hg (hr.mono hF13) hw12 hw2 (hf.mono hF13) hC hcm hcl ((h44.mono hF2).mono hF3) hsm
 unfold gramCells ringL at hvs
 refine WT.callF0 Tryz.func87 Z Z Z Z Z Z hvs (fun F4 v hF4 hv=>?_)
 obtain⟨E,hE,hv⟩:=hv
 rcases hv with ⟨hst,rfl⟩ | ⟨hst,S,hK,⟨k,y,ya,yn,yc,h1,h2,h3,rfl,hy⟩ | ⟨h1,rfl⟩⟩
 ·refine zB7 ?_
  refine AW.cond Z (fun h=>(by cases h)) (fun _=>?_)
  refine zB7 ?_
  refine WT.callN Tryz.func89 Z Z Z Z Z Z (numClone_spec F4 (Arr.nil_ _ _) (by decide)) (fun F5 v B5 hF5 hv=>?_)
  obtain⟨da,dc,rfl,hd⟩:=hv
  refine WT.freezeAll 0 Z Z (fun F6 hF6 hB6=>?_)
  have harr:=hd.arr hF6 hB6
  refine zB7 ?_
  exact AW.ret ⟨_,[],⟨_,_,rfl,⟨_,_,rfl,rfl,rfl⟩,rfl⟩,zsb,rfl,E,hE,.inl ⟨hst,_,_,_,rfl,harr⟩⟩
 ·refine zB7 ?_
  refine AW.cond Z (fun h=>(by cases h)) (fun _=>?_)
  refine zB7 ?_
  have hyl:=hy.len
  have hy1:=optL_len y
  refine WT.callN Tryz.func89 Z Z Z Z Z Z (numClone_spec F4 hy zo) (fun F5 v B5 hF5 hv=>?_)
  obtain⟨da,dc,rfl,hd⟩:=hv
  refine WT.freezeAll 0 Z Z (fun F6 hF6 hB6=>?_)
  have harr:=hd.arr hF6 hB6
  refine zB7 ?_
  exact AW.ret ⟨_,[],⟨_,_,rfl,⟨_,_,rfl,rfl,rfl⟩,rfl⟩,zsb,rfl,E,hE,.inr ⟨hst,S,hK,.inl ⟨k,y,_,_,_,h1,h2,h3,rfl,harr⟩⟩⟩
 ·refine zB7 ?_
  refine AW.cond Z (fun _=>?_) (fun h=>(by cases h))
  refine zB7 ?_
  refine AW.ret ⟨_,[],⟨_,_,rfl,⟨_,_,rfl,rfl,rfl⟩,rfl⟩,zsb,rfl,E,hE,.inr ⟨hst,S,hK,.inr ⟨h1,rfl⟩⟩⟩
def LeastRes(g:Gram)(w:List Nat)(cost:List Nat)(v:Value):Prop:=∃E,EndsOf g w E∧
 ((stepB w E ⟨false,g.start⟩ 0 w.length=false∧v=.tuple ⟨[ci 0,.int .i64 5]⟩)∨
  (stepB w E ⟨false,g.start⟩ 0 w.length=true∧∃S,Keys g w E (rootKey g w) S∧
    ((∃k y,k<200∧valsO cost (S.map (mkNode g w E S)) (k+1)=valsO cost (S.map (mkNode g w E S)) k∧(valsO cost (S.map (mkNode g w E S)) k)[place S (rootKey g w)]?=some y∧v=(match y with | some z=>.tuple ⟨[ci z,.int .i64 0]⟩ | none=>.tuple ⟨[ci 0,.int .i64 5]⟩))∨
     ((∀k,k<200→valsO cost (S.map (mkNode g w E S)) (k+1)≠valsO cost (S.map (mkNode g w E S)) k)∧v=.tuple ⟨[ci 0,.int .i64 9]⟩))))
theorem least_spec(F:Frz)(hL:Laid F)(g:Gram)(hg:Valid g){ga:Option Addr}{gm gc:Nat}(hr:Arr tRule F ga gm gc g.rules){w:List Nat}(hw12:w.length≤12)(hw2:∀t∈w,t<g.terms)
  {fa:Option Addr} {fn fc:Nat} {fr:Int} (hf:FV g w F fa fn fc fr) {ca:Option Addr} {cn cc:Nat} {cost:List Nat} (hc:Arr tNat F ca cn cc cost) (hcm:∀y∈cost,y≤1000) (hcl:cost.length=g.rules.length)
  (hsm:∀E S,EndsOf g w E→Keys g w E (rootKey g w) S→stepB w E ⟨false,g.start⟩ 0 w.length=true→∀k i y,some y∈roundToO cost (S.map (mkNode g w E S)) (valsO cost (S.map (mkNode g w E S)) k) i→y≤1000000) :
  Abs.Spec CC 33 [.agg ⟨gramCells g ga gm gc⟩,.agg ⟨[.slice fa fn fc,.int .i64 fr]⟩,.slice ca cn cc] F [] fun _ v o=>o=[]∧LeastRes g w cost v:=by
 have hbs:=best_spec F hL g hg hr hw12 hw2 hf hc hcm hcl hsm
 unfold gramCells at hbs ⊢
 refine Abs.Spec.fn (n:=26) Tryz.func33 rfl rfl fun own=>?_
 refine AW.seq (AW.reg ?_)
 refine WT.boxT Z Z Z Z Z Z (fun i3 hi3=>?_)
 refine WT.boxT Z Z Z Z Z Z (fun i4 hi4=>?_)
 refine zB7 ?_
 refine WT.callF0 Tryz.func60 Z Z Z Z Z Z hbs (fun F4 v hF4 hv=>?_)
 obtain⟨E,hE,hv⟩:=hv
 rcases hv with ⟨hst,a,n,c,rfl,hn⟩ | ⟨hst,S,hK,⟨k,y,ya,yn,yc,h1,h2,h3,rfl,hy⟩ | ⟨h1,rfl⟩⟩
 ·obtain rfl:n=0:=hn.len
  refine zB7 ?_
  refine AW.cond Z (fun h=>(by cases h)) (fun _=>?_)
  refine zB7 ?_
  refine AW.cond Z (fun _=>?_) (fun h=>(by cases h))
  refine zB7 ?_
  exact AW.ret ⟨_,[],⟨_,_,rfl,⟨_,_,rfl,rfl,rfl⟩,rfl⟩,zsb,rfl,E,hE,.inl ⟨hst,rfl⟩⟩
 ·have hyl:=hy.len
  cases y with
  | none=>
   obtain rfl:yn=0:=hyl
   refine zB7 ?_
   refine AW.cond Z (fun h=>(by cases h)) (fun _=>?_)
   refine zB7 ?_
   refine AW.cond Z (fun _=>?_) (fun h=>(by cases h))
   refine zB7 ?_
   exact AW.ret ⟨_,[],⟨_,_,rfl,⟨_,_,rfl,rfl,rfl⟩,rfl⟩,zsb,rfl,E,hE,.inr ⟨hst,S,hK,.inl ⟨k,none,h1,h2,h3,rfl⟩⟩⟩
  | some z=>
   obtain rfl:yn=1:=hyl
   refine zB7 ?_
   refine AW.cond Z (fun h=>(by cases h)) (fun _=>?_)
   refine zB7 ?_
   refine AW.cond Z (fun h=>(by cases h)) (fun _=>?_)
   refine zB7 ?_
   refine WT.idxL (j:=0) hT hy Z Z Z Z Z Z Z Z Z (by show 0<1;decide) (fun q hq b3 off3 ro3 cs3 lx3 hb3 hp3 hrel3=>?_)
   obtain rfl:lx3=_:=hrel3
   obtain rfl:z=q:=Option.some.inj hq
   refine zB7 ?_
   exact AW.ret ⟨_,[],⟨_,_,rfl,⟨_,_,rfl,rfl,rfl⟩,rfl⟩,zsb,rfl,E,hE,.inr ⟨hst,S,hK,.inl ⟨k,some z,h1,h2,h3,rfl⟩⟩⟩
 ·refine zB7 ?_
  refine AW.cond Z (fun _=>?_) (fun h=>(by cases h))
  refine zB7 ?_
  exact AW.ret ⟨_,[],⟨_,_,rfl,⟨_,_,rfl,rfl,rfl⟩,rfl⟩,zsb,rfl,E,hE,.inr ⟨hst,S,hK,.inr ⟨h1,rfl⟩⟩⟩
section
variable {cost:List Nat}{Ns:List Node}
theorem prodN_kid:∀{l:List Nat},1≤prodN l→∀x∈l,1≤x
 | a::l,h,x,hx=>by
  have h:1≤a*prodN l:=h
  have h1:1≤a:=Nat.pos_of_ne_zero fun e=>by rw[e,Nat.zero_mul] at h;omega
  have h2:1≤prodN l:=Nat.pos_of_ne_zero fun e=>by rw[e,Nat.mul_zero] at h;omega
  rcases List.mem_cons.1 hx with rfl | hx
  ·exact h1
  ·exact prodN_kid h2 x hx
theorem sumf_pos{α:Type}{f:α→Nat}:∀{l:List α},1≤(l.map f).sum→∃x∈l,1≤f x
 | [],h=>by simp at h
 | a::l,h=>by
  rw[List.map_cons,List.sum_cons] at h
  rcases Nat.eq_zero_or_pos (f a) with e | e
  ·obtain⟨x,hx,h2⟩:=sumf_pos (f:=f) (l:=l) zo
   exact⟨x,List.mem_cons_of_mem _ hx,h2⟩
  ·exact⟨a,List.mem_cons_self ..,e⟩
theorem dep_some(hrule:∀x∈Ns,∀p∈x.packs,p.rule<cost.length):∀(d v:Nat),1≤nodeT Ns d v→∃y,depO cost Ns d v=some y
 | 0,v,h=>absurd h (by show ¬1≤0;omega)
 | d+1,v,h=>by
  unfold nodeT at h
  rcases Option.eq_none_or_eq_some (Ns[v]?) with hx | ⟨x,hx⟩
  ·rw[hx] at h;exact absurd h (by show ¬1≤0;omega)
  ·rw[hx] at h
   simp only at h
   cases ht:x.key.sym.term with
   | true=>exact⟨0,depO_term cost hx ht⟩
   | false=>
    unfold leafN at h
    rw[if_neg (by simp[ht]),Nat.zero_add] at h
    obtain⟨p,hp,h1⟩:=sumf_pos h
    have h2:=prodN_kid (show 1≤prodN (p.kids.map (nodeT Ns d)) from h1)
    have hr:=hrule x (gM hx) p hp
    obtain⟨y,hy⟩:∃y,packOf cost (depO cost Ns d) p=some y:=⟨_,(packOf_iff cost).2 ⟨cost[p.rule],gE hr,fun k hk=>dep_some hrule d k (h2 _ (List.mem_map.2 ⟨k,hk,rfl⟩)),rfl⟩⟩
    rw[depO_at cost hx ht]
    obtain⟨z,hz,_⟩:=nodeOf_le cost hp y hy
    exact⟨z,hz⟩
theorem tree_least(hrule:∀x∈Ns,∀p∈x.packs,p.rule<cost.length){v n:Nat}(hn:depO cost Ns Ns.length v=some n){T:Tree}(hT:NT (foOf Ns) v T):n≤T.cost cost:=by
 obtain⟨x,hx,h1⟩:=tree_ge (cost:=cost) hrule _ T v (Nat.lt_succ_self _) hT _ rfl
 obtain⟨y,hy,h2⟩:=depO_le cost (Ns:=Ns) (u:=v) (show T.pre.length≤Ns.length+T.pre.length by omega) x hx
 rw[depO_lim,hn] at hy
 obtain rfl:=Option.some.inj hy
 omega
theorem firsts_all{v most:Nat}{L:List Tree}(h:Firsts (foOf Ns) v most L){c:Int}(hc:CountVal (fun d=>nodeT Ns d v) c)(hm:most≤1000)(hne:c≠-1)(hle:c≤L.length){T:Tree}(hT:NT (foOf Ns) v T):T∈L:=by
 classical
 rcases hc with ⟨n,⟨D,hD⟩,rfl⟩ | ⟨_,h2⟩
 ·by_cases hm2:T∈L
  ·exact hm2
  ·have h1:nodeT Ns (max D (max 5000 T.pre.length)) v=n:=hD _ zo
   have hlen:(T::L).length≤n:=by
    rw[←h1,←enumT_len]
    refine sub_len _ _ (List.nodup_cons.2 ⟨hm2,tlt_nodup h.sorted⟩) fun U hU=>?_
    rcases List.mem_cons.1 hU with rfl | hU
    ·exact enumT_mem Ns _ U v zo hT
    ·exact enumT_mem Ns _ U v (by have:=h.small U hU;omega) (h.valid U hU)
   have h3:=h.len
   have h4:MAXC=1000000000:=rfl
   rw[List.length_cons] at hlen
   omega
 ·exact absurd h2 hne
end
section
variable {g:Gram}{w:List Nat}
theorem own_rules{E:List (List Nat)}{S:List Key}{cost:List Nat}(hcl:cost.length=g.rules.length):∀x∈S.map (mkNode g w E S),∀p∈x.packs,p.rule<cost.length:=fun x hx p hp=>by
 obtain⟨k,_,rfl⟩:=List.mem_map.1 hx
 obtain⟨kp,hkp,rfl⟩:=List.mem_map.1 hp
 obtain⟨r,hr,_⟩:=mem_packsOf.1 hkp
 rw[hcl]
 exact(gS hr).1
theorem least_one(hg:Small g)(hw:w.length≤5){cost:List Nat}(hcl:cost.length=g.rules.length){v:Value}(h:LeastRes g w cost v):∃E,EndsOf g w E∧
  ((stepB w E ⟨false,g.start⟩ 0 w.length=false∧v=.tuple ⟨[ci 0,.int .i64 5]⟩)∨
   (stepB w E ⟨false,g.start⟩ 0 w.length=true∧∃S n,Keys g w E (rootKey g w) S∧depO cost (S.map (mkNode g w E S)) (S.map (mkNode g w E S)).length (place S (rootKey g w))=some n∧v=.tuple ⟨[ci n,.int .i64 0]⟩)):=by
 obtain⟨E,hE,h⟩:=h
 refine⟨E,hE,?_⟩
 rcases h with h | ⟨hst,S,hK,h⟩
 ·exact .inl h
 ·right
  refine⟨hst,S,?_⟩
  have hgv:=hg.valid
  have hrule:=own_rules (g:=g) (w:=w) (E:=E) (S:=S) hcl
  have hroot:place S (rootKey g w)<(S.map (mkNode g w E S)).length:=by
   rw[List.length_map];exact(gS (place_at hK.first)).1
  obtain⟨d,hd⟩:=nodes_prod hgv hE hK (root_good hgv w) hst _ hroot
  obtain⟨y,hy⟩:=dep_some hrule d _ hd
  obtain⟨n,hn,_⟩:=depO_le cost (Ns:=S.map (mkNode g w E S)) (u:=place S (rootKey g w)) (show d≤(S.map (mkNode g w E S)).length+d by omega) y hy
  rw[depO_lim] at hn
  refine⟨n,hK,hn,?_⟩
  rcases h with ⟨k,z,_,h1,h2,rfl⟩ | ⟨h1,_⟩
  ·have h3:=valsO_end cost h1 (place S (rootKey g w))
   unfold valO at h3
   rw[h2,hn] at h3
   have h3:z=some n:=h3
   subst h3
   rfl
  ·have hfew:=own_few hgv hE hK hst hg.nons.2 (by omega:w.length≤6)
   exact absurd (valsO_stop cost (Nat.le_refl _)) (h1 (S.map (mkNode g w E S)).length zo)
theorem least_both(hg:Small g)(hw:w.length≤5){cost:List Nat}(hcl:cost.length=g.rules.length){v v2:Value}(h:LeastRes g w cost v)(h2:LeastRes g w (cost.map (2*·)) v2):∃E,EndsOf g w E∧
  ((stepB w E ⟨false,g.start⟩ 0 w.length=false∧v=.tuple ⟨[ci 0,.int .i64 5]⟩∧v2=.tuple ⟨[ci 0,.int .i64 5]⟩)∨
   (stepB w E ⟨false,g.start⟩ 0 w.length=true∧∃S n,Keys g w E (rootKey g w) S∧depO cost (S.map (mkNode g w E S)) (S.map (mkNode g w E S)).length (place S (rootKey g w))=some n∧v=.tuple ⟨[ci n,.int .i64 0]⟩∧v2=.tuple ⟨[ci (2*n),.int .i64 0]⟩)):=by
 obtain⟨E,hE,h⟩:=least_one hg hw hcl h
 obtain⟨E2,hE2,h2⟩:=least_one hg hw (by rw[List.length_map];exact hcl) h2
 obtain rfl:=ends_uniqT hE hE2
 refine⟨E,hE,?_⟩
 rcases h with ⟨hst,h⟩ | ⟨hst,S,n,hK,hn,h⟩<;>rcases h2 with ⟨hst2,h2⟩ | ⟨hst2,S2,n2,hK2,hn2,h2⟩<;>(first | (rw[hst] at hst2;exact Bool.noConfusion hst2) | skip)
 ·exact .inl ⟨hst,h,h2⟩
 ·obtain rfl:=keys_uniq hK hK2
  refine .inr ⟨hst,S,n,hK,hn,h,?_⟩
  rw[depO_dbl,hn] at hn2
  have:=Option.some.inj hn2
  rw[h2,←this]
theorem least_listed(hg:Small g){cost:List Nat}(hcl:cost.length=g.rules.length){E:List (List Nat)}(hE:EndsOf g w E)(hst:stepB w E ⟨false,g.start⟩ 0 w.length=true){S:List Key}(hK:Keys g w E (rootKey g w) S){n:Nat}
  (hn:depO cost (S.map (mkNode g w E S)) (S.map (mkNode g w E S)).length (place S (rootKey g w))=some n) {L:List Tree} {c:Int} (h:WTrees g w 100 L c):(∀T∈L,n≤T.cost cost)∧(OkC 100 L c→L.length=100∨∃T∈L,T.cost cost=n):=by
 have hgv:=hg.valid
 have hrule:=own_rules (g:=g) (w:=w) (E:=E) (S:=S) hcl
 obtain⟨hcv,h⟩:=h
 rcases h with ⟨h1,_⟩ | ⟨h1,_⟩ | ⟨E2,S2,hE2,_,hK2,hF⟩
 ·rw[h1 E hE] at hst;cases hst
 ·cases h1
 ·obtain rfl:=ends_uniqT hE hE2
  obtain rfl:=keys_uniq hK hK2
  refine⟨fun T hT=>tree_least hrule hn (hF.valid T hT),fun hok=>?_⟩
  rcases hok with hok | ⟨hc1,hc2⟩
  ·exact .inl hok
  ·obtain⟨T,hT,hTc⟩:=dep_tree _ _ _ hn
   have e:(fun d=>symT g w d ⟨false,g.start⟩ 0 w.length)=fun d=>nodeT (S.map (mkNode g w E S)) d (place S (rootKey g w)):=by
    funext d
    exact(node_sym hgv hE hK (root_good hgv w) hst d _ hK.first).symm
   rw[e] at hcv
   exact .inr ⟨T,firsts_all hF hcv zo hc1 hc2 hT,hTc⟩
end
mutual
theorem cost_bound{cost:List Nat}(hc:∀y∈cost,y≤98):∀(T:Tree),T.cost cost≤98*T.pre.length
 | .mk r t ks=>by
  have h:=costL_bound hc ks
  have e:(Tree.mk r t ks).pre.length=(preL ks).length+1:=rfl
  rw[e]
  show (if r<0 then 0 else (cost[r.toNat]?).getD 0+costL cost ks)≤_
  have h2:(cost[r.toNat]?).getD 0≤98:=by
   rcases Option.eq_none_or_eq_some (cost[r.toNat]?) with hx | ⟨x,hx⟩
   ·rw[hx];show 0≤98;omega
   ·rw[hx];exact hc x (gM hx)
  split<;>omega
theorem costL_bound{cost:List Nat}(hc:∀y∈cost,y≤98):∀(ts:List Tree),costL cost ts≤98*(preL ts).length
 | []=>Nat.zero_le _
 | t::ts=>by
  have h:=cost_bound hc t
  have h2:=costL_bound hc ts
  show t.cost cost+costL cost ts≤98*(t.pre++preL ts).length
  rw[List.length_append]
  omega
end
theorem costL_app(cost:List Nat):∀(a b:List Tree),costL cost (a++b)=costL cost a+costL cost b
 | [],b=>by simp[costL]
 | x::a,b=>by
  have h:=costL_app cost a b
  show x.cost cost+costL cost (a++b)=x.cost cost+costL cost a+costL cost b
  rw[h];omega
theorem costL_take{cost:List Nat}{ks:List Tree}{j:Nat}{x:Tree}(h:ks[j]?=some x):costL cost (ks.take (j+1))=costL cost (ks.take j)+x.cost cost:=by
 rw[List.take_add_one,h,costL_app]
 simp[costL]
theorem costL_le{cost:List Nat}{ks:List Tree}(j:Nat):costL cost (ks.take j)≤costL cost ks:=by
 have:=congrArg (costL cost) (List.take_append_drop j ks)
 rw[costL_app] at this
 omega
mutual
theorem TreeOf.rules{g:Gram}{w:List Nat}:∀{t:Tree} {s:Sym} {i j:Nat},TreeOf g w s t i j→∀r∈t.pre,r<(g.rules.length:Int)
 | .mk _ _ _,_,_,_,.leaf _,r,hr=>by
  have hr:r∈[(-1:Int)]:=hr
  rw[List.mem_singleton.1 hr];omega
 | .mk _ _ ks,_,_,_,.node h h2,r,hr=>by
  rcases List.mem_cons.1 hr with rfl | hr
  ·have:=(gS h).1;omega
  ·exact TreesOf.rules h2 r hr
theorem TreesOf.rules{g:Gram}{w:List Nat}:∀{ts:List Tree} {l:List Sym} {i j:Nat},TreesOf g w l ts i j→∀r∈preL ts,r<(g.rules.length:Int)
 | [],_,_,_,_,r,hr=>by cases hr
 | t::ts,_,_,_,.cons h1 h2,r,hr=>by
  have hr:r∈t.pre++preL ts:=hr
  rcases List.mem_append.1 hr with hr | hr
  ·exact TreeOf.rules h1 r hr
  ·exact TreesOf.rules h2 r hr
end
theorem preL_sub{ks:List Tree}{x:Tree}(h:x∈ks):∀r∈x.pre,r∈preL ks:=by
 induction ks with
 | nil=>cases h
 | cons a ks ih=>
  intro r hr
  show r∈a.pre++preL ks
  rcases List.mem_cons.1 h with rfl | h
  ·exact List.mem_append_left _ hr
  ·exact List.mem_append_right _ (ih h r hr)
theorem tcost_spec{cost:List Nat}(hc98:∀y∈cost,y≤98):∀(N:Nat) (F:Frz) (cs:List Value) (T:Tree) {ca:Option Addr} {cn cc:Nat},T.pre.length<N→T.pre.length≤1000000→tTree.rel F cs T→(∀r∈T.pre,r<(cost.length:Int))→Arr tNat F ca cn cc cost→
  Abs.Spec CC 34 [.agg ⟨cs⟩,.slice ca cn cc] F [] fun _ v o=>o=[]∧v=ci (T.cost cost)
 | 0,_,_,_,_,_,_,h,_,_,_,_=>by omega
 | N+1,F,cs,.mk r t ks,ca,cn,cc,hN,hbig,h,hru,hc=>by
  obtain⟨ka,kn,kc,rfl,hka,hkb⟩:=tTree_cases h
  have hkl:=hka.len
  have hcl:=hc.len
  have hpel:(Tree.mk r t ks).pre.length=(preL ks).length+1:=rfl
  have hbd:=cost_bound hc98 (.mk r t ks)
  have hr0:=hru r me
  refine Abs.Spec.fn (n:=30) Tryz.func34 rfl rfl fun own=>?_
  refine AW.seq (AW.reg ?_)
  refine WT.boxT Z Z Z Z Z Z (fun i2 hi2=>?_)
  refine zB4 ?_
  refine AW.cond Z (fun hneg=>?_) (fun hneg=>?_)
  ·have hneg:r<0:=by simpa using hneg
   refine zB4 ?_
   refine AW.ret ⟨_,[],⟨_,_,rfl,rfl,rfl⟩,zsb,rfl,?_⟩
   show _=ci (if r<0 then 0 else _)
   rw[if_pos hneg];rfl
  ·have hneg:¬r<0:=by simpa using hneg
   obtain⟨r',rfl⟩:∃r':Nat,r=(r':Int):=⟨r.toNat,by omega⟩
   have hce:(Tree.mk (r':Int) t ks).cost cost=(cost[r']?).getD 0+costL cost ks:=by
    show (if (r':Int)<0 then 0 else (cost[(r':Int).toNat]?).getD 0+costL cost ks)=_
    rw[if_neg zo,Int.toNat_natCast]
   rw[hce] at hbd ⊢
   refine zB4 ?_
   refine WT.idxL hT hc Z Z Z Z Z Z Z Z Z zo (fun c0 hc0 b1 off1 ro1 cs1 lx1 hb1 hp1 hrel1=>?_)
   obtain rfl:lx1=_:=hrel1
   rw[hc0] at hbd ⊢
   have hbd:c0+costL cost ks≤_:=hbd
   refine zC4 ?_
   refine AW.range (S:=Nat) (fun s=>[(5,ci s)]) (fun _=>[(i2,.cells false [.int .i64 (r':Int),.int .i64 t,.slice ka kn kc])]::own) (fun j s G=>s=c0+costL cost (ks.take j)) kn c0
    Z Z Z Z Z Z Z Z Z zo rfl rfl (fun _=>rfl) (fun _=>rfl) sM oR (by simp[costL]) ?_ ?_
   ·intro j s F1 hF1 hj hP
    have hk1:=hka.mono hF1
    have hc1:=hc.mono hF1
    refine zB4 ?_
    refine WT.idxL hT hk1 Z Z Z Z Z Z Z Z Z zo (fun x hx b off ro cs lx hb2 hp2 hrel=>?_)
    have hrelx:=hrel
    have hxm:=gM hx
    have htk:=costL_take (cost:=cost) hx
    obtain⟨xr,xt,xks⟩:=x
    obtain⟨xa,xn,xc,rfl,_⟩:=tTree_cases hrel
    refine zB4 ?_
    refine WT.allocT hT Z Z Z Z Z Z (fun i7 hi7=>?_)
    refine zB4 ?_
    have hxl:=preL_mem hxm
    refine WT.callV Tryz.func34 Z Z Z Z Z Z (tcost_spec hc98 N F1 _ _ zo zo hrelx (fun r hr=>hru r (List.mem_cons_of_mem _ (preL_sub hxm r hr))) hc1) (fun v hv=>?_)
    subst hv
    have hle2:=costL_le (cost:=cost) (ks:=ks) (j+1)
    generalize (Tree.mk xr xt xks).cost cost=y at *
    refine zC4 ?_
    exact⟨s+y,sM,zow,by show s+y=c0+costL cost (ks.take (j+1));rw[htk,hP];omega⟩
   ·intro s F1 hF1 hP
    rw[List.take_of_length_le zo] at hP
    refine zB4 ?_
    exact AW.ret ⟨_,[],⟨_,_,rfl,rfl,rfl⟩,zsb,rfl,by rw[hP];rfl⟩
def dblG:Gram:=⟨1,1,0,[⟨0,[⟨false,0⟩,⟨false,0⟩]⟩,⟨0,[⟨true,0⟩]⟩]⟩
def dblW:List Nat:=[0,0]
def dblE:List (List Nat):=[[6,4,0]]
def dblS:List Key:=[⟨⟨true,0⟩,0,1⟩,⟨⟨false,0⟩,0,1⟩,⟨⟨false,0⟩,0,2⟩,⟨⟨true,0⟩,1,2⟩,⟨⟨false,0⟩,1,2⟩]
theorem dbl_small:Small dblG where
 terms:=by decide
 nons:=by decide
 start:=by decide
 rules:=by decide
 nodup:=by decide
 ok:=by
  intro r hr
  simp only[dblG,List.mem_cons,List.not_mem_nil,or_false] at hr
  rcases hr with rfl | rfl
  ·refine⟨by decide,by decide,fun y hy=>?_⟩
   simp only[List.mem_cons,List.not_mem_nil,or_false] at hy
   rcases hy with rfl | rfl<;>simp[SymOk,dblG]
  ·refine⟨by decide,by decide,fun y hy=>?_⟩
   simp only[List.mem_cons,List.not_mem_nil,or_false] at hy
   subst hy;simp[SymOk,dblG]
theorem dbl_one{i:Nat}(h:i<2):Der dblG dblW ⟨false,0⟩ i (i+1):=
 .non (r:=⟨0,[⟨true,0⟩]⟩) (by simp[dblG]) (.cons (.term (by match i,h with | 0,_=>rfl | 1,_=>rfl)) .nil)
theorem dbl_two:Der dblG dblW ⟨false,0⟩ 0 2:=
 .non (r:=⟨0,[⟨false,0⟩,⟨false,0⟩]⟩) (by simp[dblG]) (.cons (dbl_one (by decide)) (.cons (dbl_one (i:=1) (by decide)) .nil))
theorem dbl_der{s:Sym}{i j:Nat}(h:Der dblG dblW s i j):i<j∧j≤2∧(s.term=false→s.n=0):=by
 refine Der.rec (motive_1:=fun s i j _=>i<j∧j≤2∧(s.term=false→s.n=0)) (motive_2:=fun l i j _=>(l=[]→i=j)∧(l≠[]→i<j∧j≤2)∧i≤j) ?_ ?_ ?_ ?_ h
 ·intro t i h
  have:=(gS h).1
  have:dblW.length=2:=rfl
  exact⟨by omega,by omega,fun h=>(by cases h)⟩
 ·intro r i j hr _ ih
  simp only[dblG,List.mem_cons,List.not_mem_nil,or_false] at hr
  rcases hr with rfl | rfl
  ·have:=ih.2.1 (by simp);exact⟨this.1,this.2,fun _=>rfl⟩
  ·have:=ih.2.1 (by simp);exact⟨this.1,this.2,fun _=>rfl⟩
 ·intro i;exact⟨fun _=>rfl,fun h=>absurd rfl h,Nat.le_refl _⟩
 ·intro s l i m j _ _ ih1 ih2
  refine⟨fun h=>(by cases h),fun _=>?_,by have:=ih2.2.2;omega⟩
  by_cases hl:l=[]
  ·have:=ih2.1 hl;omega
  ·have:=ih2.2.1 hl;omega
theorem dbl_ends:EndsOf dblG dblW dblE where
 ok:=⟨rfl,by decide,by decide⟩
 iff:=by
  intro n i j hi
  have hi:i≤2:=hi
  constructor
  ·rintro⟨row,x,h1,h2,h3⟩
   have hn:n=0:=by have:=(gS h1).1;have:dblE.length=1:=rfl;omega
   subst hn
   obtain rfl:row=[6,4,0]:=(Option.some.inj h1).symm
   have hj:j<3:=by
    refine testBit_lt (x:=x) ?_ h3
    have:x∈([6,4,0]:List Nat):=gM h2
    simp only[List.mem_cons,List.not_mem_nil,or_false] at this
    rcases this with rfl | rfl | rfl<;>decide
   match i,hi,j,hj with
   | 0,_,0,_=>cases h2;exact absurd h3 (by decide)
   | 0,_,1,_=>exact dbl_one (by decide)
   | 0,_,2,_=>exact dbl_two
   | 1,_,0,_=>cases h2;exact absurd h3 (by decide)
   | 1,_,1,_=>cases h2;exact absurd h3 (by decide)
   | 1,_,2,_=>exact dbl_one (by decide)
   | 2,_,0,_=>cases h2;exact absurd h3 (by decide)
   | 2,_,1,_=>cases h2;exact absurd h3 (by decide)
   | 2,_,2,_=>cases h2;exact absurd h3 (by decide)
  ·intro h
   obtain⟨h1,h2,h3⟩:=dbl_der h
   obtain rfl:n=0:=h3 rfl
   have:(i=0∧j=1)∨(i=0∧j=2)∨(i=1∧j=2):=by omega
   rcases this with ⟨rfl,rfl⟩ | ⟨rfl,rfl⟩ | ⟨rfl,rfl⟩
   ·exact⟨_,_,rfl,rfl,by decide⟩
   ·exact⟨_,_,rfl,rfl,by decide⟩
   ·exact⟨_,_,rfl,rfl,by decide⟩
theorem dbl_sorted:dblS.Pairwise (fun x y=>ltKey x y=true):=by decide
theorem dbl_keys:Keys dblG dblW dblE (rootKey dblG dblW) dblS where
 sorted:=dbl_sorted
 first:=by decide
 closed:=by
  have h:∀k∈dblS,∀p∈packsOf dblG dblW dblE k,∀q∈p.kids,q∈dblS:=by decide
  exact h
 reach:=by
  have r2:Reachable dblG dblW dblE (rootKey dblG dblW) ⟨⟨false,0⟩,0,2⟩:=.root
  have p2:(⟨0,[⟨⟨false,0⟩,0,1⟩,⟨⟨false,0⟩,1,2⟩]⟩:KPack)∈packsOf dblG dblW dblE ⟨⟨false,0⟩,0,2⟩:=by decide
  have r01:=r2.kid p2 (q:=⟨⟨false,0⟩,0,1⟩) (by decide)
  have r12:=r2.kid p2 (q:=⟨⟨false,0⟩,1,2⟩) (by decide)
  have p01:(⟨1,[⟨⟨true,0⟩,0,1⟩]⟩:KPack)∈packsOf dblG dblW dblE ⟨⟨false,0⟩,0,1⟩:=by decide
  have p12:(⟨1,[⟨⟨true,0⟩,1,2⟩]⟩:KPack)∈packsOf dblG dblW dblE ⟨⟨false,0⟩,1,2⟩:=by decide
  have t01:=r01.kid p01 (q:=⟨⟨true,0⟩,0,1⟩) (by decide)
  have t12:=r12.kid p12 (q:=⟨⟨true,0⟩,1,2⟩) (by decide)
  intro k hk
  simp only[dblS,List.mem_cons,List.not_mem_nil,or_false] at hk
  rcases hk with rfl | rfl | rfl | rfl | rfl<;>assumption
def dblN:List Node:=dblS.map (mkNode dblG dblW dblE dblS)
theorem dbl_only{E:List (List Nat)}(hE:EndsOf dblG dblW E){S:List Key}(hK:Keys dblG dblW E (rootKey dblG dblW) S):E=dblE∧S=dblS:=by
 obtain rfl:=ends_uniqT hE dbl_ends
 exact⟨rfl,keys_uniq hK dbl_keys⟩
def dblR(u:Nat):Nat:=[0,1,2,0,1].getD u 0
theorem dbl_kids:∀v:Fin 5,∀p∈(dblN[v.1]?).elim [] (fun x=>x.packs),∀u∈p.kids,dblR u<dblR v.1:=by decide
theorem dbl_kid{u v:Nat}(h:Kid dblN u v):dblR u<dblR v:=by
 obtain⟨x,p,h1,h2,h3⟩:=h
 have hv:v<5:=(gS h1).1
 have h4:=dbl_kids ⟨v,hv⟩ p (by show p∈(dblN[v]?).elim [] _;rw[h1];exact h2) u h3
 exact h4
theorem dbl_path{v u:Nat}(h:Path dblN v u):dblR u<dblR v:=by
 induction h with
 | one k=>exact dbl_kid k
 | step _ k ih=>have:=dbl_kid k;omega
theorem dbl_count:nodeT dblN dblN.length 2=1:=by decide
theorem dbl_root:place dblS (rootKey dblG dblW)=2:=by decide
def dblC:List Nat:=[1,3]
theorem dbl_v01:valsO dblC dblN 1≠valsO dblC dblN 0:=by decide
theorem dbl_v12:valsO dblC dblN 2≠valsO dblC dblN 1:=by decide
theorem dbl_v23:valsO dblC dblN 3=valsO dblC dblN 2:=by decide
theorem dbl_v2:(valsO dblC dblN 2)[2]?=some (some 7):=by decide
theorem dbl_still:∀e,valsO dblC dblN (2+e)=valsO dblC dblN 2
 | 0=>rfl
 | e+1=>by
  show roundToO dblC dblN (valsO dblC dblN (2+e)) dblN.length=_
  rw[dbl_still e]
  exact dbl_v23
theorem dbl_all(k:Nat):∃q:Fin 3,valsO dblC dblN k=valsO dblC dblN q.1:=by
 match k with
 | 0=>exact⟨0,rfl⟩
 | 1=>exact⟨1,rfl⟩
 | e+2=>exact⟨2,by rw[Nat.add_comm];exact dbl_still e⟩
theorem dbl_over(vs:List (Option Nat)):∀e,roundToO dblC dblN vs (5+e)=roundToO dblC dblN vs 5
 | 0=>rfl
 | e+1=>by
  show stepO dblC dblN (roundToO dblC dblN vs (5+e)) (5+e)=_
  rw[dbl_over vs e]
  unfold stepO
  rw[List.getElem?_eq_none_iff.2 (show dblN.length≤5+e by have:dblN.length=5:=rfl;omega)]
theorem dbl_small0:∀q:Fin 3,∀i:Fin 6,∀y∈roundToO dblC dblN (valsO dblC dblN q.1) i.1,y.getD 0≤1000000:=by decide
theorem dbl_sm(k i y:Nat)(h:some y∈roundToO dblC dblN (valsO dblC dblN k) i):y≤1000000:=by
 obtain⟨q,hq⟩:=dbl_all k
 rw[hq] at h
 rcases Nat.lt_or_ge i 6 with hi | hi
 ·exact dbl_small0 q ⟨i,hi⟩ _ h
 ·rw[show i=5+(i-5) by omega,dbl_over] at h
  exact dbl_small0 q ⟨5,by decide⟩ _ h
theorem dbl_least{v:Value}(h:LeastRes dblG dblW dblC v):v=.tuple ⟨[ci 7,.int .i64 0]⟩:=by
 obtain⟨E,hE,h⟩:=h
 obtain rfl:=ends_uniqT hE dbl_ends
 rcases h with ⟨hst,_⟩ | ⟨_,S,hK,h⟩
 ·exact absurd hst (by decide)
 ·obtain rfl:=keys_uniq hK dbl_keys
  rw[dbl_root] at h
  rcases h with ⟨k,y,hk,h1,h2,rfl⟩ | ⟨hno,_⟩
  ·have h1:valsO dblC dblN (k+1)=valsO dblC dblN k:=h1
   have h2:(valsO dblC dblN k)[2]?=some y:=h2
   match k,h1,h2 with
   | 0,h1,_=>exact absurd h1 dbl_v01
   | 1,h1,_=>exact absurd h1 dbl_v12
   | e+2,_,h2=>
    rw[Nat.add_comm,dbl_still e,dbl_v2] at h2
    obtain rfl:=Option.some.inj h2
    rfl
  ·exact absurd dbl_v23 (hno 2 (by decide))
theorem doubling_spec(F:Frz):Abs.Spec CC 57 [] F [] fun F' v o=>o=[]∧∃a c,v=.agg ⟨gramCells dblG a 2 c⟩∧Arr tRule F' a 2 c dblG.rules:=by
 refine Abs.Spec.fn (n:=10) Tryz.func57 rfl rfl fun own=>?_
 refine AW.seq (AW.reg ?_)
 refine WT.allocT hT Z Z Z Z Z Z (fun i0 hi0=>?_)
 refine zB7 ?_
 refine WT.buildT hT Z Z Z Z Z Z Z Z Z Z Z Z Z Z (fun i5 hi5=>?_)
 refine zB7 ?_
 refine WT.buildT hT Z Z Z Z Z Z Z Z Z Z Z Z Z Z (fun i8 hi8=>?_)
 refine zB7 ?_
 refine WT.buildT hT Z Z Z Z Z Z Z Z Z Z Z Z Z Z (fun i10 hi10=>?_)
 refine WT.freezeAll 2 Z Z (fun F1 hF1 hB1=>?_)
 refine WT.freezeAll 1 Z Z (fun F2 hF2 hB2=>?_)
 refine WT.freezeAll 0 Z Z (fun F3 hF3 hB3=>?_)
 have h5:Arr tSym F3 (some ⟨i5,0,none⟩) 2 2 [⟨false,0⟩,⟨false,0⟩]:=(Bld.frozen (F:=F) (B:=[(i5,.cells false [.bool false,.int .i64 0,.bool false,.int .i64 0])]) ⟨rfl,.inr ⟨i5,_,rfl,rfl,rfl,Cells.cons (R:=tSym) (x:=⟨false,0⟩) (l:=[_,_]) rfl (Cells.single (R:=tSym) (x:=⟨false,0⟩) rfl),by decide⟩⟩ hF1 hB1).mono (hF2.trans hF3)
 have h8:Arr tSym F3 (some ⟨i8,0,none⟩) 1 2 [⟨true,0⟩]:=(Bld.frozen (F:=F1) (B:=[(i8,.cells false [.bool true,.int .i64 0])]) ⟨rfl,.inr ⟨i8,_,rfl,rfl,rfl,Cells.single (R:=tSym) (x:=⟨true,0⟩) rfl,by decide⟩⟩ hF2 hB2).mono hF3
 have h10:Arr tRule F3 (some ⟨i10,0,none⟩) 2 2 dblG.rules:=Bld.frozen (F:=F3) (B:=[(i10,.cells false [.int .i64 0,.slice (some ⟨i5,0,none⟩) 2 2,.int .i64 0,.slice (some ⟨i8,0,none⟩) 1 2])]) ⟨rfl,.inr ⟨i10,_,rfl,rfl,rfl,Cells.cons (R:=tRule) (x:=⟨0,[⟨false,0⟩,⟨false,0⟩]⟩) (l:=[_,_]) ⟨_,_,_,rfl,h5⟩ (Cells.single (R:=tRule) (x:=⟨0,[⟨true,0⟩]⟩) ⟨_,_,_,rfl,h8⟩),by decide⟩⟩ (Frz.le.refl _) hB3
 refine zB7 ?_
 exact AW.ret ⟨_,[],⟨_,_,⟨_,rfl,fun G h0 s0=>loadA_cells (s0.has (p:=3) rfl me) (readT_ok hT rfl)⟩,rfl,rfl⟩,zsb,rfl,_,_,rfl,h10⟩
theorem one_spec(F:Frz)(n:Nat):Abs.Spec CC 58 [ci n] F [] fun _ v o=>o=[]∧v=ci 1:=by
 refine Abs.Spec.fn (n:=3) Tryz.func58 rfl rfl fun own=>?_
 refine zB4 ?_
 exact AW.ret ⟨_,[],⟨_,_,rfl,rfl,rfl⟩,zsb,rfl,rfl⟩
def cntRf(gr:Nat):RingI:=⟨54,55,56,gr,[],[],[],[],cntP,cntT,fun _=>1,MAXC⟩
theorem cnt1_spec(F:Frz)(a b:Nat)(ha:a≤MAXC)(hb:b≤MAXC):Abs.Spec CC 54 [ci a,ci b] F [] fun _ v o=>o=[]∧v=ci (cntP a b):=by
 have:MAXC=1000000000:=rfl
 refine Abs.Spec.fn (n:=9) Tryz.func54 rfl rfl fun own=>?_
 refine zB4 ?_
 refine WT.know (v':=.int .i64 ((a+b:Nat):Int)) 7 Z (by congr 1) ?_
 refine WT.minT (x:=a+b) (y:=1000000000) Z Z Z Z Z Z ?_
 refine zB4 ?_
 exact AW.ret ⟨_,[],⟨_,_,rfl,rfl,rfl⟩,zsb,rfl,rfl⟩
theorem cnt2_spec(F:Frz)(a b:Nat)(ha:a≤MAXC)(hb:b≤MAXC):Abs.Spec CC 55 [ci a,ci b] F [] fun _ v o=>o=[]∧v=ci (cntT a b):=by
 have:MAXC=1000000000:=rfl
 have hmm:a*b≤1000000000*1000000000:=Nat.mul_le_mul zo zo
 refine Abs.Spec.fn (n:=9) Tryz.func55 rfl rfl fun own=>?_
 refine zB4 ?_
 refine WT.mulT Z Z Z Z Z Z (by rw[←Int.natCast_mul];omega) ?_
 refine WT.know (v':=.int .i64 ((a*b:Nat):Int)) 7 Z (by congr 1) ?_
 refine WT.minT (x:=a*b) (y:=1000000000) Z Z Z Z Z Z ?_
 refine zB4 ?_
 exact AW.ret ⟨_,[],⟨_,_,rfl,rfl,rfl⟩,zsb,rfl,rfl⟩
theorem cnt3_spec(F:Frz)(a b:Nat):Abs.Spec CC 56 [ci a,ci b] F [] fun _ v o=>o=[]∧v=.bool (decide (a=b)):=by
 refine Abs.Spec.fn (n:=8) Tryz.func56 rfl rfl fun own=>?_
 refine zB4 ?_
 refine AW.ret ⟨_,[],⟨_,_,rfl,rfl,rfl⟩,zsb,rfl,?_⟩
 show Value.bool ((a:Int)==(b:Int))=_
 congr 1
 by_cases h:a=b
 ·subst h;simp
 ·rw[decide_eq_false h]
  have:(a:Int)≠(b:Int):=by omega
  simpa using this
theorem counting_spec(F:Frz):Abs.Spec CC 18 [] F [] fun _ v o=>o=[]∧v=.agg ⟨(cntRf 0).ring⟩:=by
 refine Abs.Spec.fn (n:=2) Tryz.func18 rfl rfl fun own=>?_
 refine AW.seq (AW.reg ?_)
 refine WT.allocT hT Z Z Z Z Z Z (fun i0 hi0=>?_)
 refine zB4 ?_
 exact AW.ret ⟨_,[],⟨_,_,⟨_,rfl,fun G h0 s0=>loadA_cells (s0.has (p:=0) rfl me) (readT_ok hT rfl)⟩,rfl,rfl⟩,zsb,rfl,rfl⟩
theorem cntR_is(gr:Nat):IsCnt (cntRf gr):=⟨rfl,rfl,rfl,rfl⟩
theorem cntR_ok(F:Frz){gr:Nat}(h:HasF gr)(hs:∀n:Nat,Abs.Spec CC gr [ci n] F [] fun _ v o=>o=[]∧v=ci 1):RingOk F (cntRf gr) where
 hp:=⟨_,Tryz.func54,rfl⟩
 ht:=⟨_,Tryz.func55,rfl⟩
 hs:=⟨_,Tryz.func56,rfl⟩
 hr:=h
 P:=fun a b ha hb=>⟨Nat.min_le_right _ _,cnt1_spec F a b ha hb⟩
 T:=fun a b ha hb=>⟨Nat.min_le_right _ _,cnt2_spec F a b ha hb⟩
 S:=fun a b=>cnt3_spec F a b
 R:=fun n=>⟨by show 1≤MAXC;decide,hs n⟩
 one:=by show 1≤MAXC;decide
theorem values_spec(F:Frz)(hL:Laid F):Abs.Spec CC 20 [] F [] fun _ v o=>o=[]∧v=.bool true:=by
 refine Abs.Spec.fn (n:=45) Tryz.func20 rfl rfl fun own=>?_
 refine zB7 ?_
 refine WT.callF0 Tryz.func57 Z Z Z Z Z Z (doubling_spec _) (fun F1 v hF1 hv=>?_)
 obtain⟨ga,gc,rfl,hr⟩:=hv
 skip
 refine WT.buildT hT Z Z Z Z Z Z Z Z Z Z Z Z Z Z (fun i9 hi9=>?_)
 refine WT.freezeAll 0 Z Z (fun F2 hF2 hB2=>?_)
 have hw:Arr tNat F2 (some ⟨i9,0,none⟩) 2 1 dblW:=arr_ci (hB2 i9 _ me) rfl rfl
 have hgv:=dbl_small.valid
 have hw2:∀t∈dblW,t<dblG.terms:=by decide
 have hL2:=(hL.mono hF1).mono hF2
 refine WT.callF0 Tryz.func15 Z Z Z Z Z Z (forestOf_spec _ hL2 dblG hgv (hr.mono hF2) hw (by decide) hw2) (fun F3 v hF3 hv=>?_)
 obtain⟨E,hE,hv⟩:=hv
 obtain⟨fa,fn,fc,fr,rfl,hf⟩:∃fa fn fc fr,v=.tuple ⟨[.agg ⟨[.slice fa fn fc,.int .i64 fr]⟩,.int .i64 0]⟩∧FV dblG dblW F3 fa fn fc fr:=by
  have hv0:=hv
  rcases hv with ⟨s,xa,xn,xc,xr,rfl,rfl,h3,h4⟩ | ⟨_,_,L,h1,h2,h3⟩
  ·exact⟨_,_,_,_,rfl,E,hE,hv0⟩
  ·exfalso
   have:=packs_small dbl_small (by decide) (E:=E) h1 fun k hk=>(h2 k hk).good hgv (root_good hgv dblW)
   omega
 clear hv
 have hL3:=hL2.mono hF3
 refine zB7 ?_
 refine WT.allocT hT Z Z Z Z Z Z (fun i1 hi1=>?_)
 refine zB7 ?_
 refine AW.draw (ps:=[(1,0),(1,2)]) Z Z ?_
 skip
 refine WT.callF0 Tryz.func57 Z Z Z Z Z Z (doubling_spec _) (fun F4 v hF4 hv=>?_)
 obtain⟨ha,hc,rfl,hr4⟩:=hv
 refine zB7 ?_
 refine WT.callV Tryz.func18 Z Z Z Z Z Z (counting_spec _) (fun v hv=>?_)
 subst hv
 have hvs:=value_spec F4 (hL3.mono hF4) dblG hgv hr4 (by decide) hw2 (hf.mono hF4) (cntRf 58) (fun G _=>cntR_ok G ⟨_,Tryz.func58,rfl⟩ (one_spec G))
 skip
 refine WT.callV Tryz.func17 Z Z Z Z Z Z hvs (fun v hv=>?_)
 have hv1:v=.tuple ⟨[ci 1,.int .i64 0]⟩:=by
  obtain⟨E1,hE1,hv⟩:=hv
  obtain rfl:=ends_uniqT hE1 dbl_ends
  rcases hv with ⟨hst,_⟩ | ⟨hst,S,hK,hres⟩
  ·exact absurd hst (by decide)
  ·obtain rfl:=keys_uniq hK dbl_keys
   rw[dbl_root] at hres
   have h1:=value_cnt (own_leafy hgv dbl_ends dbl_keys hst (by decide)) (cntR_is _) (fun u _ hp=>Nat.lt_irrefl _ (dbl_path hp)) (show dblN.length≤150 by decide) (show 2<dblN.length by decide) hres
   have h2:min (nodeT dblN dblN.length 2) MAXC=1:=by rw[dbl_count];decide
   rw[show List.map (mkNode dblG dblW dblE dblS) dblS=dblN from rfl,h2] at h1
   exact h1
 clear hv
 subst hv1
 refine zB7 ?_
 refine⟨zrC,?_⟩
 refine zB7 ?_
 refine AW.draw (ps:=[(1,0),(1,2)]) Z Z ?_
 skip
 refine WT.callF0 Tryz.func57 Z Z Z Z Z Z (doubling_spec _) (fun F5 v hF5 hv=>?_)
 obtain⟨ka,kc,rfl,hr5⟩:=hv
 refine zB7 ?_
 refine WT.buildT hT Z Z Z Z Z Z Z Z Z Z Z Z Z Z (fun i23 hi23=>?_)
 refine WT.freezeAll 0 Z Z (fun F6 hF6 hB6=>?_)
 have hc6:Arr tNat F6 (some ⟨i23,0,none⟩) 2 1 dblC:=arr_ci (hB6 i23 _ me) rfl rfl
 have hF46:=(hF4.trans hF5).trans hF6
 have hls:=least_spec F6 (hL3.mono hF46) dblG hgv (hr5.mono hF6) (by decide) hw2 (hf.mono hF46) hc6 (by decide) rfl (fun E S hE hK _ k i y hy=>by
  obtain⟨rfl,rfl⟩:=dbl_only hE hK
  exact dbl_sm k i y hy)
 refine WT.callV Tryz.func33 Z Z Z Z Z Z hls (fun v hv=>?_)
 obtain rfl:=dbl_least hv
 refine zB7 ?_
 refine⟨zrC,?_⟩
 refine zB7 ?_
 exact AW.ret ⟨_,[],⟨_,_,rfl,rfl,rfl⟩,zsb,rfl,rfl⟩
theorem dbl_rep(n:Nat):((List.replicate n 0).map (2*·):List Nat)=List.replicate n 0:=by rw[List.map_replicate]
theorem dbl_set(l:List Nat)(j y:Nat):(l.set j y).map (2*·)=(l.map (2*·)).set j (2*y):=by rw[List.map_set]
theorem root_sign{g:Gram}{w:List Nat}{F:Frz}{a:Option Addr}{n c:Nat}{r:Int}(h:FV g w F a n c r){E:List (List Nat)}(hE:EndsOf g w E) :
  (stepB w E ⟨false,g.start⟩ 0 w.length=false→r=-1)∧(stepB w E ⟨false,g.start⟩ 0 w.length=true→0≤r):=by
 obtain⟨E2,hE2,h⟩:=h.res
 obtain rfl:=ends_uniqT hE hE2
 rcases makeRes_cases h with ⟨_,⟨h1,_,_,_,h2⟩ | ⟨h1,S,h2,_⟩⟩ | ⟨h0,_⟩
 ·exact⟨fun _=>h2,fun h3=>by rw[h1] at h3;cases h3⟩
 ·exact⟨fun h3=>by (rw[h1] at h3;cases h3),fun _=>by omega⟩
 ·cases h0
theorem least_shape{g:Gram}{w cost:List Nat}{v:Value}(h:LeastRes g w cost v):∃(n:Nat) (e:Int),v=.tuple ⟨[ci n,.int .i64 e]⟩:=by
 obtain⟨E,_,h⟩:=h
 rcases h with ⟨_,h⟩ | ⟨_,S,_,⟨k,y,_,_,_,h⟩ | ⟨_,h⟩⟩
 ·exact⟨_,_,h⟩
 ·cases y with
  | some z=>exact⟨_,_,h⟩
  | none=>exact⟨_,_,h⟩
 ·exact⟨_,_,h⟩
theorem least_bound{g:Gram}(hg:Small g){w cost:List Nat}(hw:w.length≤5)(h98:∀y∈cost,y≤98){n:Nat}(h:LeastRes g w cost (.tuple ⟨[ci n,.int .i64 0]⟩)):n≤1000000:=by
 obtain⟨E,hE,h⟩:=h
 rcases h with ⟨_,h⟩ | ⟨hst,S,hK,⟨k,y,_,_,h2,h⟩ | ⟨_,h⟩⟩
 ·simp at h
 ·cases y with
  | some z=>
   obtain rfl:n=z:=by
    have h:=h
    simp[ci] at h
    omega
   exact cap_small _ (own_filled hg hE hK hst hw) h98 k 0 n (gM h2)
  | none=>simp at h
 ·simp at h
theorem semiLeast_law(F:Frz)(hL:Laid F){a b e:Option Addr}{m n p c d q:Nat}{l w0 cs0:List Int}(hl:Arr tInt F a m c l)(hw0:Arr tInt F b n d w0)(hc0:Arr tInt F e p q cs0)(hm:n≤9223372036854775807)(hp:p≤9223372036854775807) :
  Abs.Spec CC 6 [.slice a m c,.slice b n d,.slice e p q] F [] fun _ v o=>o=[]∧v=.bool true:=by
 have hc0l:=hc0.len
 refine Abs.Spec.fn (n:=177) Tryz.func6 rfl rfl fun own=>?_
 refine zB4 ?_
 refine WT.callF0 Tryz.func7 Z Z Z Z Z Z (made_spec _ hl hw0 hm 5 (by decide)) (fun F1 v hF1 hv=>?_)
 obtain⟨g,ga,gm,gc,wa,wn,wc,w,rfl,hg,hr,hw,hw1,hw2⟩:=hv
 have hL1:=hL.mono hF1
 have hgv:=hg.valid
 have hrl:=hr.len
 have hr8:=hg.rules.2
 unfold gramCells
 refine zB4 ?_
 refine WT.allocT hT Z Z Z Z Z Z (fun i9 hi9=>?_)
 refine zB4 ?_
 refine WT.callF0 Tryz.func15 Z Z Z Z Z Z (forestOf_spec _ hL1 g hgv hr hw zo hw2) (fun F2 v hF2 hv=>?_)
 obtain⟨E,hE,hv⟩:=hv
 obtain⟨fa,fn,fc,fr,rfl,hf⟩:∃fa fn fc fr,v=.tuple ⟨[.agg ⟨[.slice fa fn fc,.int .i64 fr]⟩,.int .i64 0]⟩∧FV g w F2 fa fn fc fr:=by
  have hv0:=hv
  rcases hv with ⟨s,xa,xn,xc,xr,rfl,rfl,h3,h4⟩ | ⟨_,_,L,h1,h2,h3⟩
  ·exact⟨_,_,_,_,rfl,E,hE,hv0⟩
  ·exfalso
   have:=packs_small hg zo (E:=E) h1 fun k hk=>(h2 k hk).good hgv (root_good hgv w)
   omega
 clear hv
 have hL2:=hL1.mono hF2
 have hr2:=hr.mono hF2
 have hw2':=hw.mono hF2
 have hc2:=(hc0.mono hF1).mono hF2
 refine zB4 ?_
 refine WT.allocT hT Z Z Z Z Z Z (fun i10 hi10=>?_)
 refine zB4 ?_
 refine AW.draw (ps:=[(1,7),(2,7),(5,3),(6,3)]) Z Z ?_
 refine zB4 ?_
 refine WT.makeT (l:=gm) hT Z Z Z Z Z Z Z Z Z Z Z Z zom (fun io hio=>?_)
 rw[cap_eq]
 refine zB4 ?_
 refine WT.makeT (l:=gm) hT Z Z Z Z Z Z Z Z Z Z Z Z zom (fun it hit=>?_)
 rw[cap_eq]
 refine zB4 ?_
 refine⟨zrC,?_⟩
 rw[replicate_ci]
 refine zB4 ?_
 refine AW.range (S:=List Nat) (fun _=>[]) (fun os=>[(it,.cells false ((os.map (2*·)).map ci))]::[(io,.cells false (os.map ci))]::[(i10,.cells false [.slice fa fn fc,.int .i64 fr])]::[(i9,.cells false [.int .i64 g.terms,.int .i64 g.nons,.int .i64 g.start,.slice ga gm gc])]::own)
  (fun j os G=>os.length=gm∧∀y∈os,y≤49) gm (List.replicate gm 0)
  Z Z Z Z Z Z Z Z Z zo rfl rfl (fun _=>rfl) (fun _=>rfl) sM (by rw[dbl_rep];exact OwnLe.refl _) ⟨by simp,fun y hy=>by rw[List.eq_of_mem_replicate hy];omega⟩ ?_ ?_
 ·intro j os F3 hF3 hj hP
  obtain⟨hol,h49⟩:=hP
  have hc3:=hc2.mono hF3
  refine zB4 ?_
  refine AW.cond Z (fun h=>?_) (fun h=>?_)
  ·have h:0<p:=by simpa using h
   refine zB4 ?_
   refine WT.remT Z Z Z Z Z Z zo ?_
   refine WT.know (v':=.int .i64 ((j % p:Nat):Int)) 57 Z (by rfl) ?_
   have hjp:=Nat.mod_lt j h
   generalize j % p=jp at *
   refine WT.idxL hT hc3 Z Z Z Z Z Z Z Z Z zo (fun x hxj b1 off ro cs lx hb1 hp1 hrel=>?_)
   obtain rfl:lx=_:=hrel
   refine zB4 ?_
   refine WT.callV Tryz.func21 Z Z Z Z Z Z (below_spec _ x 50 zo zo) (fun v hv=>?_)
   subst hv
   have hb50:below x 50<50:=below_lt x zo
   generalize below x 50=y at *
   skip
   refine WT.idxA (j:=j) (s:=1) hT Z Z Z Z Z Z Z Z Z zo ?_
   refine WT.storeAt hT 1 0 Z Z Z Z Z Z Z Z Z Z (by simp;omega) Z Z ?_
   rw[show (os.map ci).set (0+j*1) (ci y)=(os.set j y).map ci from ci_set os j y]
   refine zB4 ?_
   refine WT.idxA (j:=j) (s:=1) hT Z Z Z Z Z Z Z Z Z zo ?_
   refine WT.loadAt hT 1 Z Z Z Z Z Z me Z Z (ci_at (x:=y) (by rw[List.getElem?_set_self zo])) ?_
   refine WT.mul2 Z Z Z Z Z Z zo ?_
   refine WT.idxA (j:=j) (s:=1) hT Z Z Z Z Z Z Z Z Z zo ?_
   refine WT.storeAt hT 0 0 Z Z Z Z Z Z Z Z Z Z (by simp;omega) Z Z ?_
   rw[show ((os.map (2*·)).map ci).set (0+j*1) (ci (2*y))=((os.set j y).map (2*·)).map ci from by rw[dbl_set];exact ci_set _ _ _]
   refine zB4 ?_
   refine⟨os.set j y,sM,zow,by rw[List.length_set];exact hol,fun z hz=>?_⟩
   rcases List.mem_or_eq_of_mem_set hz with h1 | h1
   ·exact h49 z h1
   ·omega
  ·obtain⟨y,hyj⟩:∃y,os[j]?=some y:=⟨_,gE zo⟩
   have hy49:=h49 y (gM hyj)
   have hset:os.set j y=os:=by
    apply List.ext_getElem?
    intro i
    by_cases e:i=j
    ·subst e;rw[List.getElem?_set_self zo,hyj]
    ·rw[List.getElem?_set_ne (Ne.symm e)]
   refine zB4 ?_
   refine WT.idxA (j:=j) (s:=1) hT Z Z Z Z Z Z Z Z Z zo ?_
   refine WT.loadAt hT 1 Z Z Z Z Z Z me Z Z (ci_at (x:=y) hyj) ?_
   refine WT.mul2 Z Z Z Z Z Z zo ?_
   refine WT.idxA (j:=j) (s:=1) hT Z Z Z Z Z Z Z Z Z zo ?_
   refine WT.storeAt hT 0 0 Z Z Z Z Z Z Z Z Z Z (by simp;omega) Z Z ?_
   rw[show ((os.map (2*·)).map ci).set (0+j*1) (ci (2*y))=((os.set j y).map (2*·)).map ci from by rw[dbl_set];exact ci_set _ _ _]
   refine zB4 ?_
   rw[hset]
   exact⟨os,sM,zow,hol,h49⟩
 ·intro os F3 hF3 hP
  obtain⟨hol,h49⟩:=hP
  refine AW.freezeAll 0 Z Z (fun F4 hF4 hB4=>?_)
  refine AW.freezeAll 1 Z Z (fun F5 hF5 hB5=>?_)
  have hF35:=(hF3.trans hF4).trans hF5
  have hot:Arr tNat F5 (some ⟨io,0,none⟩) gm (if gm=0 then 0 else 1) os:=arr_ci (hB5 io _ me) hol rfl
  have htw:Arr tNat F5 (some ⟨it,0,none⟩) gm (if gm=0 then 0 else 1) (os.map (2*·)):=arr_ci (hF5 _ _ (hB4 it _ me)) (by rw[List.length_map];exact hol) rfl
  have hL5:=hL2.mono hF35
  have hr5:=hr2.mono hF35
  have hw5:=hw2'.mono hF35
  have hf5:=hf.mono hF35
  have hcl:os.length=g.rules.length:=by rw[hol,hrl]
  have h98:∀y∈os,y≤98:=fun y hy=>by have:=h49 y hy;omega
  have h98':∀y∈os.map (2*·),y≤98:=fun y hy=>by
   obtain⟨x,hx,rfl⟩:=List.mem_map.1 hy
   have:=h49 x hx
   omega
  refine zB6 ?_
  refine WT.callV Tryz.func33 Z Z Z Z Z Z (least_spec F5 hL5 g hgv hr5 zo hw2 hf5 hot (fun y hy=>by have:=h98 y hy;omega) hcl (fun E S hE hK hst k i y hy=>cap_small _ (own_filled hg hE hK hst hw1) h98 k i y hy)) (fun v hv1=>?_)
  obtain⟨n1,e1,rfl⟩:=least_shape hv1
  refine zB6 ?_
  refine WT.callV Tryz.func33 Z Z Z Z Z Z (least_spec F5 hL5 g hgv hr5 zo hw2 hf5 htw (fun y hy=>by have:=h98' y hy;omega) (by rw[List.length_map];exact hcl) (fun E S hE hK hst k i y hy=>cap_small _ (own_filled hg hE hK hst hw1) h98' k i y hy)) (fun v hv2=>?_)
  obtain⟨n2,e2,rfl⟩:=least_shape hv2
  obtain⟨E,hE,hboth⟩:=least_both hg hw1 hcl hv1 hv2
  obtain⟨hr1,hr0⟩:=root_sign hf5 hE
  refine zB6 ?_
  refine WT.callN Tryz.func11 Z Z Z Z Z Z (mtrees_spec _ hL5 g hgv hr5 hw5 zo hw2 (most:=100) zo) (fun F6 v B6 hF6 hv3=>?_)
  obtain⟨K,c3,hWT,hres⟩:=hv3
  obtain⟨xa,xn,xc,xe,rfl,harr,hxe⟩:∃(xa:Option Addr) (xn xc:Nat) (xe:Int),v=.tuple ⟨[.slice xa xn xc,.int .i64 xe]⟩∧(xe=0→∀G:Frz,(∀i b,(i,b)∈B6→G i=some b)→Arr tTree G xa xn xc K)∧(xe=0∧OkC 100 K c3∨xe=2):=by
   rcases hres with ⟨hok,a1,n1,d1,B1,css1,bs1,rfl,rfl,hB1,hT1⟩ | ⟨_,rfl⟩
   ·exact⟨_,_,_,_,rfl,fun _ G hG=>hT1.frozen hB1 (fun i b hm=>hG i b (List.mem_append_left _ hm)) (fun i b hm=>hG i b (List.mem_append_right _ hm)),.inl ⟨rfl,hok⟩⟩
   ·exact⟨_,_,_,_,rfl,fun h=>absurd h (by decide),.inr rfl⟩
  refine WT.freezeAll 0 Z Z (fun F7 hF7 hB7=>?_)
  have hF57:=hF6.trans hF7
  have hL7:=hL5.mono hF57
  have hr7:=hr5.mono hF57
  have hw7:=hw5.mono hF57
  have ho7:=hot.mono hF57
  have hvs:=values_spec F7 hL7
  refine zB6 ?_
  refine WT.callV Tryz.func20 Z Z Z Z Z Z hvs (fun v hv=>?_)
  subst hv
  refine zB6 ?_
  rcases hboth with ⟨hst,hx1,hx2⟩ | ⟨hst,S,n,hK,hn,hx1,hx2⟩
  ·cases hx1
   cases hx2
   obtain rfl:=hr1 hst
   skip
   refine AW.cond Z (fun _=>?_) (fun h=>(by cases h))
   refine zB6 ?_
   refine WT.callV Tryz.func20 Z Z Z Z Z Z hvs (fun v hv=>?_)
   subst hv
   refine zB6 ?_
   exact AW.ret ⟨_,[],⟨_,_,rfl,rfl,rfl⟩,zsb,rfl,rfl⟩
  ·have hr0:=hr0 hst
   obtain⟨rfl,rfl⟩:n1=n∧e1=0:=by
    have h:=hx1
    simp[ci] at h
    exact⟨by omega,h.2⟩
   obtain⟨rfl,rfl⟩:n2=2*n1∧e2=0:=by
    have h:=hx2
    simp only[ci,Value.tuple.injEq,Array.mk.injEq,List.cons.injEq,Value.int.injEq,true_and,and_true] at h
    exact⟨by omega,h.2⟩
   have hnb:=least_bound hg hw1 h98 hv1
   obtain⟨hall,hsome⟩:=least_listed hg hcl hE hst hK hn hWT
   refine AW.cond Z (fun h=>absurd (of_decide_eq_true h) zo) (fun _=>?_)
   refine zC6 ?_
   rcases hxe with ⟨rfl,hok⟩ | rfl
   ·have hA:=harr rfl F7 hB7
    have hal:=hA.len
    have hKl:=hWT.len
    skip
    refine WT.know (v':=.bool false) 127 Z (by simp) ?_
    refine zC6 ?_
    refine AW.cond Z (fun h=>(by cases h)) (fun _=>?_)
    refine zC6 ?_
    refine AW.range (S:=Bool) (fun s=>[(19,.bool s)]) (fun _=>[]::[]::[]::[(i10,.cells false [.slice fa fn fc,.int .i64 fr])]::[(i9,.cells false [.int .i64 g.terms,.int .i64 g.nons,.int .i64 g.start,.slice ga gm gc])]::own) (fun j s G=>s=true↔∃T∈K.take j,T.cost os=n1) xn false
     Z Z Z Z Z Z Z Z Z zo rfl rfl (fun _=>rfl) (fun _=>rfl) sM oR (by simp) ?_ ?_
    ·intro j s F8 hF8 hj hP
     have hA8:=hA.mono hF8
     refine zC6 ?_
     refine WT.idxL hT hA8 Z Z Z Z Z Z Z Z Z zo (fun x hxj b1 off ro cs lx hb hp1 hrelx0=>?_)
     have hrelx:=hrelx0
     have hxm:=gM hxj
     have hval:=hWT.valid x hxm
     have hsm:=hWT.small x hxm
     have hge:=hall x hxm
     have htk:K.take (j+1)=K.take j++[x]:=by rw[List.take_add_one,hxj];rfl
     have hcb:=cost_bound h98 x
     obtain⟨xr,xt,xks⟩:=x
     obtain⟨ya,yn,yc,rfl,_⟩:=tTree_cases hrelx0
     refine zC6 ?_
     refine WT.allocT hT Z Z Z Z Z Z (fun i21 hi21=>?_)
     refine zC7 ?_
     have hwt:Arr tNat F8 wa wn wc (w.take w.length):=by rw[List.take_length];exact hw7.mono hF8
     refine WT.callV Tryz.func14 Z Z Z Z Z Z (isTree_spec g hgv _ (hr7.mono hF8) w zo hrelx hval hwt) (fun v hv=>?_)
     subst hv
     refine zC7 ?_
     refine AW.cond Z (fun h=>(by cases h)) (fun _=>?_)
     refine zC7 ?_
     refine WT.callV Tryz.func34 Z Z Z Z Z Z (tcost_spec h98 _ _ _ _ (Nat.lt_succ_self _) zo hrelx (fun r hr=>by rw[hcl];exact hval.rules r hr) (ho7.mono hF8)) (fun v hv=>?_)
     subst hv
     generalize hy:(Tree.mk xr xt xks).cost os=y at hcb hge ⊢
     refine zC7 ?_
     refine AW.cond Z (fun h=>absurd (of_decide_eq_true h) zo) (fun _=>?_)
     refine zC7 ?_
     refine WT.split 165 Z (fun hs=>?_) (fun hs=>?_)
     ·refine zC7 ?_
      refine⟨true,sM,zow,?_⟩
      obtain⟨T,hT,hc⟩:=hP.1 hs
      exact⟨fun _=>⟨T,by rw[htk];exact List.mem_append_left _ hT,hc⟩,fun _=>rfl⟩
     ·refine zC7 ?_
      refine⟨_,sM,zow,?_⟩
      have hno:∀T∈K.take j,T.cost os≠n1:=fun T hT hc=>by
       have:=hP.2 ⟨T,hT,hc⟩
       rw[hs] at this;cases this
      refine⟨fun h=>⟨_,by rw[htk];exact List.mem_append_right _ (List.mem_singleton_self _),?_⟩,fun ⟨T,hT,hc⟩=>?_⟩
      ·rw[hy]
       have h:=eq_of_beq h
       omega
      ·rw[htk] at hT
       rcases List.mem_append.1 hT with hT | hT
       ·exact absurd hc (hno T hT)
       ·rw[List.mem_singleton.1 hT,hy] at hc
        rw[hc]
        exact beq_self_eq_true _
    ·intro s F8 hF8 hP
     rw[List.take_of_length_le zo] at hP
     refine zC6 ?_
     refine WT.split 172 Z (fun hs=>?_) (fun hs=>?_)
     ·refine zC6 ?_
      exact AW.ret ⟨_,[],⟨_,_,rfl,rfl,rfl⟩,zsb,rfl,rfl⟩
     ·have h100:xn=100:=by
       rcases hsome hok with h | h
       ·omega
       ·have:=hP.2 h
        rw[hs] at this;cases this
      subst h100
      refine zC6 ?_
      exact AW.ret ⟨_,[],⟨_,_,rfl,rfl,rfl⟩,zsb,rfl,rfl⟩
   ·skip
    refine WT.know (v':=.bool false) 127 Z (by simp) ?_
    refine zC6 ?_
    refine AW.cond Z (fun _=>?_) (fun h=>(by cases h))
    refine zC6 ?_
    refine WT.know (v':=.bool true) 143 Z (by simp) ?_
    refine zC6 ?_
    exact AW.ret ⟨_,[],⟨_,_,rfl,rfl,rfl⟩,zsb,rfl,rfl⟩
end Go.Proofs.D