/-
  Walks: what functions of the program do, over the abstract machine.
-/
import Derived.Test.YtmbdmfjijofmmaaGreatDoorWk1
import Derived.Sort.Walk13a
set_option linter.unusedVariables false
set_option maxRecDepth 20000
set_option maxHeartbeats 0
open Go Go.Abs Go.Proofs Go.Proofs.D
set_option linter.unusedVariables false
set_option maxRecDepth 20000
set_option maxHeartbeats 0
open Go Go.Abs Go.Proofs Go.Proofs.D
namespace Go.Proofs.D
theorem step_der{g:Gram}{w:List Nat}{E:List (List Nat)}(hE:EndsOf g w E){s:Sym}{i j:Nat}(hi:i≤w.length):stepB w E s i j=true↔Der g w s i j:=by
 rw[stepB_iff];unfold Step;obtain⟨b,n⟩:=s;cases b with
 | true=>simp only[if_true];rw[der_term]
 | false=>
  simp only[Bool.false_eq_true,if_false];exact hE.iff n i j hi
def rootKey(g:Gram)(w:List Nat):Key:=⟨⟨false,g.start⟩,0,w.length⟩
def ForestV(g:Gram)(w:List Nat)(E:List (List Nat))(F:Frz)(v:Value):Prop:=
 (stepB w E ⟨false,g.start⟩ 0 w.length=false∧v=.agg ⟨[.slice none 0 0,.int .i64 (-1)]⟩)∨
 (stepB w E ⟨false,g.start⟩ 0 w.length=true∧∃S a n c,v=.agg ⟨[.slice a n c,.int .i64 (place S (rootKey g w):Nat)]⟩∧Keys g w E (rootKey g w) S∧Arr tNode F a n c (S.map (mkNode g w E S)))
theorem ForestV.mono{g:Gram}{w:List Nat}{E:List (List Nat)}{F G:Frz}{v:Value}(h:ForestV g w E F v)(hF:Frz.le F G):ForestV g w E G v:=by
 rcases h with h | ⟨h1,S,a,n,c,h2,h3,h4⟩
 ·exact .inl h
 ·exact .inr ⟨h1,S,a,n,c,h2,h3,h4.mono hF⟩
mutual
def Tree.pre:Tree→List Int
 | .mk r _ ks=>r::preL ks
def preL:List Tree→List Int
 | []=>[]
 | t::ts=>t.pre++preL ts
end
def lexLt:List Int→List Int→Prop
 | [],[]=>False
 | [],_::_=>True
 | _::_,[]=>False
 | a::l,b::m=>a<b∨(a=b∧lexLt l m)
theorem lexLt_irrefl:∀(l:List Int),¬lexLt l l
 | [],h=>h
 | a::l,h=>by
  rcases h with h | h
  ·omega
  ·exact lexLt_irrefl l h.2
theorem lexLt_trans:∀{l m n:List Int},lexLt l m→lexLt m n→lexLt l n
 | [],[],_,h,_=>h.elim
 | [],_::_,[],_,h=>h.elim
 | [],_::_,_::_,_,_=>trivial
 | _::_,[],_,h,_=>h.elim
 | _::_,_::_,[],_,h=>h.elim
 | a::l,b::m,c::n,h1,h2=>by
  rcases h1 with h1 | ⟨rfl,h1⟩<;>rcases h2 with h2 | ⟨rfl,h2⟩
  ·exact .inl zo
  ·exact .inl h1
  ·exact .inl h2
  ·exact .inr ⟨rfl,lexLt_trans h1 h2⟩
theorem lexLt_app:∀{l m:List Int} (x y:List Int),l.length=m.length→lexLt l m→lexLt (l++x) (m++y)
 | [],[],_,_,_,h=>h.elim
 | [],_::_,_,_,h,_=>by simp at h
 | _::_,[],_,_,h,_=>by simp at h
 | a::l,b::m,x,y,h,h2=>by
  rcases h2 with h2 | ⟨rfl,h2⟩
  ·exact .inl h2
  ·exact .inr ⟨rfl,lexLt_app x y (by simpa using h) h2⟩
theorem lexLt_pre:∀(a:List Int) {x y:List Int},lexLt x y→lexLt (a++x) (a++y)
 | [],_,_,h=>h
 | _::a,_,_,h=>.inr ⟨rfl,lexLt_pre a h⟩
def wlt(l m:List Int):Prop:=l.length<m.length∨(l.length=m.length∧lexLt l m)
def wle(l m:List Int):Prop:=wlt l m∨l=m
theorem wlt_irrefl(l:List Int):¬wlt l l:=fun h=>by
 rcases h with h | h
 ·omega
 ·exact lexLt_irrefl l h.2
theorem wlt_trans{l m n:List Int}(h1:wlt l m)(h2:wlt m n):wlt l n:=by
 rcases h1 with h1 | ⟨e1,h1⟩<;>rcases h2 with h2 | ⟨e2,h2⟩
 ·exact .inl zo
 ·exact .inl zo
 ·exact .inl zo
 ·exact .inr ⟨by omega,lexLt_trans h1 h2⟩
theorem wle_refl(l:List Int):wle l l:=.inr rfl
theorem wle_trans{l m n:List Int}(h1:wle l m)(h2:wle m n):wle l n:=by
 rcases h1 with h1 | rfl
 ·rcases h2 with h2 | rfl
  ·exact .inl (wlt_trans h1 h2)
  ·exact .inl h1
 ·exact h2
theorem wle_wlt{l m n:List Int}(h1:wle l m)(h2:wlt m n):wlt l n:=by
 rcases h1 with h1 | rfl
 ·exact wlt_trans h1 h2
 ·exact h2
theorem wle_len{l m:List Int}(h:wle l m):l.length≤m.length:=by
 rcases h with (h | h) | rfl<;>omega
theorem wlt_appL{a b:List Int}(x y:List Int)(h:wlt a b)(h2:wle x y):wlt (a++x) (b++y):=by
 have hl:=wle_len h2;rcases h with h | ⟨e,h⟩
 ·exact .inl (by simp;omega)
 ·by_cases e2:x.length=y.length
  ·exact .inr ⟨by simp;omega,lexLt_app x y e h⟩
  ·exact .inl (by simp;omega)
theorem wlt_appR(a:List Int){x y:List Int}(h:wlt x y):wlt (a++x) (a++y):=by
 rcases h with h | ⟨e,h⟩
 ·exact .inl (by simp;omega)
 ·exact .inr ⟨by simp;omega,lexLt_pre a h⟩
theorem wle_app{a b x y:List Int}(h:wle a b)(h2:wle x y):wle (a++x) (b++y):=by
 rcases h with h | rfl
 ·exact .inl (wlt_appL x y h h2)
 ·rcases h2 with h2 | rfl
  ·exact .inl (wlt_appR a h2)
  ·exact .inr rfl
theorem wle_cons(a:Int){x y:List Int}(h:wle x y):wle (a::x) (a::y):=wle_app (wle_refl [a]) h
theorem wlt_cons(a:Int){x y:List Int}(h:wlt x y):wlt (a::x) (a::y):=wlt_appR [a] h
def tlt(a b:Tree):Prop:=wlt a.pre b.pre
def tle(a b:Tree):Prop:=wle a.pre b.pre
def allLe:List Tree→List Tree→Prop
 | [],[]=>True
 | a::l,b::m=>tle a b∧allLe l m
 | _,_=>False
theorem preL_le:∀{l m:List Tree},allLe l m→wle (preL l) (preL m)
 | [],[],_=>wle_refl _
 | a::l,b::m,h=>wle_app h.1 (preL_le h.2)
 | [],_::_,h=>h.elim
 | _::_,[],h=>h.elim
theorem preL_set:∀{l:List Tree} {i:Nat} {u t:Tree},l[i]?=some u→tlt t u→wlt (preL (l.set i t)) (preL l)
 | [],_,_,_,h,_=>by simp at h
 | a::l,0,u,t,h,h2=>by
  obtain rfl:a=u:=by simpa using h
  exact wlt_appL _ _ h2 (wle_refl _)
 | a::l,i+1,u,t,h,h2=>wlt_appR _ (preL_set (i:=i) (by simpa using h) h2)
theorem preL_set':∀{l:List Tree} {i:Nat} {u t:Tree},l[i]?=some u→tlt u t→wlt (preL l) (preL (l.set i t))
 | [],_,_,_,h,_=>by simp at h
 | a::l,0,u,t,h,h2=>by
  obtain rfl:a=u:=by simpa using h
  exact wlt_appL _ _ h2 (wle_refl _)
 | a::l,i+1,u,t,h,h2=>wlt_appR _ (preL_set' (i:=i) (by simpa using h) h2)
theorem preL_mem:∀{l:List Tree} {t:Tree},t∈l→t.pre.length≤(preL l).length
 | a::l,t,h=>by
  show _≤(a.pre++preL l).length;rw[List.length_append];rcases List.mem_cons.1 h with rfl | h
  ·omega
  ·have:=preL_mem h;omega
theorem kid_lt{r:Int}{t:Nat}{ks:List Tree}{k:Tree}(h:k∈ks):tlt k (.mk r t ks):=by
 refine .inl ?_;show _<(r::preL ks).length;have:=preL_mem h;simp only[List.length_cons];omega
structure Fo where
 n:Nat
 leaf:Nat→Option Nat
 packs:Nat→List NPack
mutual
inductive NT(f:Fo):Nat→Tree→Prop
 | leaf {v t:Nat}:v<f.n→f.leaf v=some t→NT f v (.mk (-1) t [])
 | node {v:Nat} {p:NPack} {ts:List Tree}:v<f.n→f.leaf v=none→p∈f.packs v→NTs f p.kids ts→NT f v (.mk p.rule 0 ts)
inductive NTs(f:Fo):List Nat→List Tree→Prop
 | nil:NTs f [] []
 | cons {k:Nat} {t:Tree} {ks:List Nat} {ts:List Tree}:NT f k t→NTs f ks ts→NTs f (k::ks) (t::ts)
end
structure Fo.Good(f:Fo):Prop where
 kids:∀v,v<f.n→∀p∈f.packs v,p.kids.length≤4∧∀k∈p.kids,k<f.n
 dec:∀v T T',NT f v T→NT f v T'→T.pre=T'.pre→T=T'
 uniq:∀v,v<f.n→f.leaf v=none→∀(a b:Nat) (p q:NPack),(f.packs v)[a]?=some p→(f.packs v)[b]?=some q→p.rule=q.rule→∀ts,NTs f p.kids ts→NTs f q.kids ts→a=b
theorem NTs.len{f:Fo}:∀{ks:List Nat} {ts:List Tree},NTs f ks ts→ts.length=ks.length
 | [],[],_=>rfl
 | _::_,_::_,.cons _ h=>by simp[NTs.len h]
theorem NTs.at_{f:Fo}:∀{ks:List Nat} {ts:List Tree},NTs f ks ts→∀{i k:Nat} {t:Tree},ks[i]?=some k→ts[i]?=some t→NT f k t
 | _::_,_::_,.cons h h2,0,k,t,h3,h4=>by simp at h3 h4;subst h3 h4;exact h
 | _::_,_::_,.cons h h2,i+1,k,t,h3,h4=>NTs.at_ h2 (by simpa using h3) (by simpa using h4)
 | [],[],_,i,k,t,h3,_=>by simp at h3
theorem NTs.of_at{f:Fo}:∀{ks:List Nat} {ts:List Tree},ts.length=ks.length→(∀(i k:Nat) (t:Tree),ks[i]?=some k→ts[i]?=some t→NT f k t)→NTs f ks ts
 | [],[],_,_=>.nil
 | [],_::_,h,_=>by simp at h
 | _::_,[],h,_=>by simp at h
 | k::ks,t::ts,h,h2=>.cons (h2 0 k t rfl rfl) (NTs.of_at (by simpa using h) fun i k t h3 h4=>h2 (i+1) k t (by simpa using h3) (by simpa using h4))
theorem NTs.set{f:Fo}{ks:List Nat}{ts:List Tree}(h:NTs f ks ts){i k:Nat}{t:Tree}(hk:ks[i]?=some k)(ht:NT f k t):NTs f ks (ts.set i t):=by
 refine NTs.of_at (by rw[List.length_set];exact h.len) fun j k' t' h1 h2=>?_;rw[List.getElem?_set] at h2;split at h2
 ·rename_i e;subst e;rw[hk] at h1;cases h1;split at h2
  ·cases h2;exact ht
  ·cases h2
 ·exact h.at_ h1 h2
structure Cand where
 node:Nat
 pack:Nat
 r0:Nat
 r1:Nat
 r2:Nat
 r3:Nat
deriving DecidableEq
def Cand.ranks(c:Cand):List Nat:=[c.r0,c.r1,c.r2,c.r3]
def Cand.inc(c:Cand):Nat→Cand
 | 0=>{ c with r0:=c.r0+1 }
 | 1=>{ c with r1:=c.r1+1 }
 | 2=>{ c with r2:=c.r2+1 }
 | 3=>{ c with r3:=c.r3+1 }
 | _=>c
theorem Cand.inc_ranks(c:Cand){i r:Nat}(h:c.ranks[i]?=some r):(c.inc i).ranks=c.ranks.set i (r+1):=by
 match i,h with
 | 0,h=>simp[Cand.ranks] at h;subst h;rfl
 | 1,h=>simp[Cand.ranks] at h;subst h;rfl
 | 2,h=>simp[Cand.ranks] at h;subst h;rfl
 | 3,h=>simp[Cand.ranks] at h;subst h;rfl
 | _+4,h=>simp[Cand.ranks] at h
theorem Cand.inc_node(c:Cand)(i:Nat):(c.inc i).node=c.node∧(c.inc i).pack=c.pack:=by
 match i with
 | 0 | 1 | 2 | 3=>exact⟨rfl,rfl⟩
 | _+4=>exact⟨rfl,rfl⟩
theorem Cand.ext_{c d:Cand}(h1:c.node=d.node)(h2:c.pack=d.pack)(h3:c.ranks=d.ranks):c=d:=by
 cases c;cases d;simp[Cand.ranks] at h3;simp_all
def pick(L:Nat→List Tree):List Nat→List Nat→Option (List Tree)
 | [],_=>some []
 | k::ks,r::rs=>match (L k)[r]? with
  | some t=>match pick L ks rs with
   | some ts=>some (t::ts)
   | none=>none
  | none=>none
 | _::_,[]=>none
def miss(L:Nat→List Tree):List Nat→List Nat→Option (Nat×Nat)
 | k::ks,r::rs=>match (L k)[r]? with
  | some _=>miss L ks rs
  | none=>some (k,r)
 | _,_=>none
theorem pick_some{L:Nat→List Tree}:∀{ks rs:List Nat} {ts:List Tree},pick L ks rs=some ts→ts.length=ks.length∧∀(i k:Nat),ks[i]?=some k→∃(r:Nat) (t:Tree),rs[i]?=some r∧(L k)[r]?=some t∧ts[i]?=some t
 | [],_,ts,h=>by
  cases h;exact⟨rfl,fun i k h=>by simp at h⟩
 | k::ks,[],_,h=>by cases h
 | k::ks,r::rs,ts,h=>by
  unfold pick at h;split at h
  ·rename_i t ht;split at h
   ·rename_i ts' hts;cases h;obtain⟨h1,h2⟩:=pick_some hts;refine⟨by simp[h1],fun i k' hk=>?_⟩;cases i with
    | zero=>
     obtain rfl:k=k':=by simpa using hk
     exact⟨r,t,rfl,ht,rfl⟩
    | succ i=>
     obtain⟨r',t',e1,e2,e3⟩:=h2 i k' (by simpa using hk);exact⟨r',t',by simpa using e1,e2,by simpa using e3⟩
   ·cases h
  ·cases h
theorem pick_of{L:Nat→List Tree}:∀{ks rs:List Nat} {ts:List Tree},ts.length=ks.length→(∀(i k:Nat),ks[i]?=some k→∃(r:Nat) (t:Tree),rs[i]?=some r∧(L k)[r]?=some t∧ts[i]?=some t)→pick L ks rs=some ts
 | [],_,ts,h,_=>by
  obtain rfl:ts=[]:=List.eq_nil_of_length_eq_zero h;rfl
 | k::ks,rs,[],h,_=>by simp at h
 | k::ks,rs,t::ts,h,h2=>by
  obtain⟨r,t',e1,e2,e3⟩:=h2 0 k rfl;obtain rfl:t=t':=by simpa using e3
  cases rs with
  | nil=>simp at e1
  | cons r' rs=>
   obtain rfl:r'=r:=by simpa using e1
   have ih:=pick_of (L:=L) (ks:=ks) (rs:=rs) (ts:=ts) (by simpa using h) (fun i k hk=>by
    obtain⟨r,t,g1,g2,g3⟩:=h2 (i+1) k (by simpa using hk);exact⟨r,t,by simpa using g1,g2,by simpa using g3⟩)
   unfold pick;simp only[e2,ih]
theorem miss_some{L:Nat→List Tree}:∀{ks rs:List Nat} {k r:Nat},miss L ks rs=some (k,r)→∃i:Nat,ks[i]?=some k∧rs[i]?=some r∧(L k)[r]?=none
 | [],_,_,_,h=>by cases h
 | _::_,[],_,_,h=>by cases h
 | k0::ks,r0::rs,k,r,h=>by
  unfold miss at h;split at h
  ·obtain⟨i,h1,h2,h3⟩:=miss_some h;exact⟨i+1,by simpa using h1,by simpa using h2,h3⟩
  ·rename_i hn;cases h;exact⟨0,rfl,rfl,hn⟩
def Grew(L L':Nat→List Tree):Prop:=∀v,∃x,L' v=L v++x
theorem Grew.at_{L L':Nat→List Tree}(h:Grew L L'){v r:Nat}{t:Tree}(ht:(L v)[r]?=some t):(L' v)[r]?=some t:=by
 obtain⟨x,hx⟩:=h v;rw[hx,List.getElem?_append_left (gS ht).1];exact ht
theorem pick_grew{L L':Nat→List Tree}(h:Grew L L'){ks rs:List Nat}{ts:List Tree}(hp:pick L ks rs=some ts):pick L' ks rs=some ts:=by
 obtain⟨h1,h2⟩:=pick_some hp;exact pick_of h1 fun i k hk=>by
  obtain⟨r,t,e1,e2,e3⟩:=h2 i k hk;exact⟨r,t,e1,h.at_ e2,e3⟩
theorem miss_grew{L L':Nat→List Tree}(h:Grew L L'):∀{ks rs:List Nat} {k r:Nat},miss L ks rs=some (k,r)→(L' k)[r]?=none→miss L' ks rs=some (k,r)
 | [],_,_,_,h2,_=>by cases h2
 | _::_,[],_,_,h2,_=>by cases h2
 | k0::ks,r0::rs,k,r,h2,h3=>by
  unfold miss at h2;split at h2
  ·rename_i t ht;have:=h.at_ ht;unfold miss;simp only[this];exact miss_grew h h2 h3
  ·cases h2;unfold miss;simp only[h3]
structure Lr where
 rule:Nat
 dot:Nat
deriving DecidableEq,Inhabited
def tLr:Ty Lr where
 size:=2
 rel:=fun _ l x=>l=[.int .i64 x.rule,.int .i64 x.dot]
 len:=fun _ _ _ h=>by rw[h];rfl
 one:=fun _ _ _ h=>by rw[h];rfl
 mono:=fun _ _ _ _ _ h=>h
theorem lrClone_spec(F:Frz){a:Option Addr}{m c:Nat}{xs:List Lr}(hx:Arr tLr F a m c xs)(hm:m≤1000000) :
  Abs.Spec CC 193 [.slice a m c] F [] fun F' v o=>∃B',o=[B']∧∃a' c',v=.slice a' m c'∧Vec tLr F' a' m c' B' xs:=by
 refine Abs.Spec.fn (n:=8) Tryz.func193 rfl rfl fun own=>?_;refine zB4 ?_;refine WT.sliceNil hT Z Z Z Z Z Z Z Z ?_;refine zB4 ?_;refine AW.cond Z (fun h=>?_) (fun h=>?_)
 ·exact shE10
 ·refine zB4 ?_;refine WT.buildT hT Z Z Z Z Z Z Z Z Z Z Z Z Z Z (fun i5 hi5=>?_);refine zB4 ?_;obtain⟨ds,hds,hcs⟩:=news_arr hT hx (t:=259) rfl rfl 181;refine WT.appendE hT Z Z Z Z Z Z Z Z Z Z Z Z (fun h0 s0=>hds _ h0 s0) hcs hx.len (by decide) zom (fun a' c' B' hB' _=>?_);refine zB4 ?_;refine AW.le (OwnLe.cons _ (OwnLe.skip _ oR)) ?_;exact AW.ret ⟨_,[_],⟨_,_,rfl,rfl,rfl⟩,zsb,_,rfl,_,_,rfl,hB'⟩
def ltLr(x y:Lr):Bool:=decide (x.rule<y.rule∨(x.rule=y.rule∧x.dot<y.dot))
theorem ltLr_iff{x y:Lr}:ltLr x y=true↔(x.rule<y.rule∨(x.rule=y.rule∧x.dot<y.dot)):=by unfold ltLr;exact decide_eq_true_iff
theorem ltLr_not{x y:Lr}:ltLr x y=false↔¬(x.rule<y.rule∨(x.rule=y.rule∧x.dot<y.dot)):=by unfold ltLr;exact decide_eq_false_iff_not
theorem ltLr_swo:Go.Sort.SWO ltLr where
 irrefl:=fun x=>by rw[ltLr_not];omega
 trans:=fun x y z h1 h2=>by rw[ltLr_iff] at *;omega
 ntrans:=fun x y z h1 h2=>by rw[ltLr_not] at *;omega
theorem ltLr_anti(x y:Lr)(h1:ltLr x y=false)(h2:ltLr y x=false):x=y:=by
 rw[ltLr_not] at *;cases x;cases y;simp only at h1 h2;simp only[Lr.mk.injEq];omega
theorem cmpLr_lt(x y:Lr):orInt [cmpInt x.rule y.rule,cmpInt x.dot y.dot]<0↔ltLr x y=true:=by
 rw[ltLr_iff];simp only[orInt];unfold cmpInt
 repeat' split
 all_goals omega
theorem lrOrder_spec(F:Frz)(x y:Lr):Abs.Spec CC 196 [.agg ⟨[.int .i64 x.rule,.int .i64 x.dot]⟩,.agg ⟨[.int .i64 y.rule,.int .i64 y.dot]⟩] F [] fun _ v o=>o=[]∧v=.int .i64 (orInt [cmpInt x.rule y.rule,cmpInt x.dot y.dot]):=by
 refine Abs.Spec.fn (n:=17) Tryz.func196 rfl rfl fun own=>?_;refine AW.seq (AW.reg ?_);refine WT.boxT Z Z Z Z Z Z (fun i2 hi2=>?_);refine WT.boxT Z Z Z Z Z Z (fun i3 hi3=>?_);refine zB4 ?_;refine AW.draw (ps:=[(6,4),(8,4)]) Z Z ?_;refine zB4 ?_;refine WT.callV Tryz.func124 Z Z Z Z Z Z (compare_spec _ _ _) (fun v hv=>?_);subst hv;refine zB4 ?_;refine WT.callV Tryz.func124 Z Z Z Z Z Z (compare_spec _ _ _) (fun v hv=>?_);subst hv;refine WT.buildT hT Z Z Z Z Z Z Z Z Z Z Z Z Z Z (fun i9 hi9=>?_)
 refine WT.callLend 0 Tryz.func123 Z Z Z Z Z Z Z (fun G hG hBG=>or_spec G (l:=[cmpInt x.rule y.rule,cmpInt x.dot y.dot]) (Bld.frozen (F:=F) (B:=[(i9,.cells false [.int .i64 (cmpInt x.rule y.rule),.int .i64 (cmpInt x.dot y.dot)])]) ⟨rfl,.inr ⟨i9,_,rfl,rfl,rfl,Cells.cons (l:=[_]) Z (Cells.single (x:=cmpInt x.dot y.dot) rfl),by decide⟩⟩ hG hBG) (by decide)) (fun v hv=>?_);subst hv;refine zB4 ?_;refine⟨zrC,?_⟩;exact AW.ret ⟨_,[],⟨_,_,rfl,rfl,rfl⟩,zsb,rfl,rfl⟩
theorem lrOrder_cmp(F:Frz):CmpOk tLr ltLr F 196 [] []:=
 ⟨⟨_,Tryz.func196,rfl⟩,fun G _ lx ly x y hx hy=>by
  obtain rfl:lx=_:=hx;obtain rfl:ly=_:=hy;exact Spec.mono (lrOrder_spec G x y) (fun F' v o _ h=>⟨h.1,_,h.2,cmpLr_lt x y⟩)⟩
theorem lrIndex_spec(F:Frz){a:Option Addr}{m c:Nat}{xs:List Lr}(hx:Arr tLr F a m c xs)(hm:m≤1000000)(x:Lr) :
  Abs.Spec CC 221 [.slice a m c,.agg ⟨[.int .i64 x.rule,.int .i64 x.dot]⟩] F [] fun _ v o=>o=[]∧∃i:Int,v=.int .i64 i∧(0≤i↔x∈xs):=by
 refine Abs.Spec.fn (n:=19) Tryz.func221 rfl rfl fun own=>?_;have hxlen:=hx.len;refine AW.seq (AW.reg ?_);refine WT.boxT Z Z Z Z Z Z (fun i3 hi3=>?_);refine zB4 ?_;refine AW.range (S:=Unit) (fun _=>[]) (fun _=>_) (fun j _ G=>x∉xs.take j) m () Z Z Z Z Z Z Z Z Z zo Z Z (fun _=>rfl) (fun _=>rfl) sM oR (by simp) ?_ ?_
 ·intro j _ F1 hF1 hj hP;have hx1:=hx.mono hF1;refine zB4 ?_;refine WT.idxL hT hx1 Z Z Z Z Z Z Z Z Z zo (fun y hyj b1 off ro cs ly hb hp1 hrel=>?_);obtain rfl:ly=_:=hrel;refine zB4 ?_;refine AW.cond Z (fun hc=>?_) (fun hc=>?_)
  ·refine zB4 ?_;have e:x=y:=by
    simp at hc;cases x;cases y;simp only[Lr.mk.injEq] at *;omega
   subst e;refine AW.ret ⟨_,[],⟨_,_,rfl,rfl,rfl⟩,zsb,rfl,_,rfl,?_⟩;exact⟨fun _=>gM hyj,fun _=>by omega⟩
  ·refine zB4 ?_;refine⟨(),sM,zow,?_⟩;show x∉xs.take (j+1);rw[List.take_add_one,hyj];intro hm;rcases List.mem_append.1 hm with h | h
   ·exact hP h
   ·have e:x=y:=by simpa using h
    subst e;simp at hc
 ·intro _ F1 hF1 hP;rw[List.take_of_length_le zo] at hP;refine zB4 ?_;exact AW.ret ⟨_,[],⟨_,_,rfl,rfl,rfl⟩,zsb,rfl,_,rfl,by simp[hP]⟩
theorem lrContains_spec(F:Frz){a:Option Addr}{m c:Nat}{xs:List Lr}(hx:Arr tLr F a m c xs)(hm:m≤1000000)(x:Lr) :
  Abs.Spec CC 194 [.slice a m c,.agg ⟨[.int .i64 x.rule,.int .i64 x.dot]⟩] F [] fun _ v o=>o=[]∧v=.bool (decide (x∈xs)):=by
 refine Abs.Spec.fn (n:=9) Tryz.func194 rfl rfl fun own=>?_;refine AW.seq (AW.reg ?_);refine WT.boxT Z Z Z Z Z Z (fun i3 hi3=>?_);refine zB4 ?_;refine WT.callV Tryz.func221 Z Z Z Z Z Z (lrIndex_spec _ hx hm x) (fun v hv=>?_);obtain⟨i,rfl,hi⟩:=hv;refine zB4 ?_;refine AW.ret ⟨_,[],⟨_,_,rfl,rfl,rfl⟩,zsb,rfl,?_⟩;rw[show decide (x∈xs)=decide (0≤i) from by simp[hi]];rfl
theorem lrIns_spec(F:Frz){lt:Lr→Lr→Bool}{g:Nat}{first capt:List Value}(hc:CmpOk tLr lt F g first capt){a0:Option Addr}{m c:Nat}{B:List (Nat×Blk)}{d:Array Lr}(hv:Vec tLr F a0 m c B d.toList)(a b:Nat)(ha:a≤1000000)(hb:b≤m)(hm:m≤1000000) :
  Abs.Spec CC 246 [.slice a0 m c,.int .i64 a,.int .i64 b,.func (.func g) ⟨first⟩ ⟨capt⟩] F [B] fun F' v o=>∃B',o=[B']∧Vec tLr F' a0 m c B' (Go.Sort.insertionSort lt d a b).toList:=by
 obtain⟨⟨fn,hg,hgb⟩,hcmp⟩:=hc;refine Abs.Spec.fn (n:=53) Tryz.func246 rfl rfl fun own=>?_;refine zC4 ?_;refine AW.block ?_;refine AW.loopR (S:=VS Lr) (fun s=>[(8,.int .i64 (s.i:Nat))]) (fun s=>s.B::own) (fun s G=>Vec tLr G a0 m c s.B s.d.toList∧Go.Sort.insOuter lt a b s.i s.d=Go.Sort.insertionSort lt d a b) (fun s=>b-s.i) ⟨a+1,d,B⟩
  sM oR ⟨hv,rfl⟩ ?_
 intro s F1 hF1 hP;obtain⟨hv1,heq1⟩:=hP;refine zC4 ?_;refine AW.cond Z (fun h=>?_) (fun h=>?_)
 ·have h:s.i<b:=by simpa using h
  refine zC4 ?_;refine AW.block ?_;refine zC4 ?_;refine AW.block ?_;refine AW.loopR (S:=VS Lr) (fun u=>[(9,.int .i64 (u.i:Nat))]) (fun u=>u.B::own) (fun u G=>Vec tLr G a0 m c u.B u.d.toList∧u.i≤s.i∧Go.Sort.insInner lt a u.i u.d=Go.Sort.insInner lt a s.i s.d) (fun u=>u.i) ⟨s.i,s.d,s.B⟩
   sM oR ⟨hv1,Nat.le_refl _,rfl⟩ ?_
  intro u F2 hF2 hP2;obtain⟨hv2,hui,heq2⟩:=hP2;have hsz:m=u.d.size:=hv2.len;have stop:(a<u.i→lt u.d[u.i]! u.d[u.i-1]! = false)→Go.Sort.insOuter lt a b (s.i+1) u.d=Go.Sort.insertionSort lt d a b:=by
   intro h1;rw[←heq1];have e:Go.Sort.insInner lt a s.i s.d=u.d:=by
    rw[←heq2];cases hi:u.i with
    | zero=>rfl
    | succ j=>
     rw[hi] at h1;simp only[Nat.add_sub_cancel] at h1;rw[Go.Sort.insInner];by_cases h2:a<j+1
     ·rw[h1 h2];simp
     ·simp[h2]
   conv=>rhs;rw[Go.Sort.insOuter]
   rw[if_pos h,e]
  refine zC4 ?_;refine WT.split 21 Z (fun hja=>?_) (fun hja=>?_)
  ·have hja:a<u.i:=by simp at hja;omega
   refine zC4 ?_;refine WT.vidx hT hv2 Z Z Z Z Z Z Z Z Z zo (fun bl1 hbl1=>?_);refine WT.vldS hT 0 hv2 hbl1 (arr_at zo) Z Z Z Z Z Z Z Z Z (fun l1 hl1=>?_);refine zC4 ?_;refine WT.vidx hT hv2 Z Z Z Z Z Z Z Z Z zo (fun bl2 hbl2=>?_);refine WT.vldS hT 0 hv2 hbl2 (arr_at zo) Z Z Z Z Z Z Z Z Z (fun l2 hl2=>?_);refine WT.callC hg hgb Z Z Z Z Z Z Z (hcmp F2 (hF1.trans hF2) l1 l2 _ _ hl1 hl2) (fun v hvz=>?_);obtain⟨z,rfl,hz⟩:=hvz;refine zC4 ?_;refine AW.cond Z (fun hc=>?_) (fun hc=>?_)
   ·have hlt:lt u.d[u.i]! u.d[u.i-1]! = true:=hz.1 (by simpa using hc);refine zC4 ?_;refine AW.block ?_;refine AW.draw (ps:=[(4,15)]) Z Z ?_;refine zC4 ?_;refine WT.vidx hT hv2 Z Z Z Z Z Z Z Z Z zo (fun bl3 hbl3=>?_);refine WT.vldS hT 0 hv2 hbl3 (arr_at zo) Z Z Z Z Z Z Z Z Z (fun l3 hl3=>?_);refine zC4 ?_;refine WT.vidx hT hv2 Z Z Z Z Z Z Z Z Z zo (fun bl4 hbl4=>?_);refine WT.vldS hT 0 hv2 hbl4 (arr_at zo) Z Z Z Z Z Z Z Z Z (fun l4 hl4=>?_);refine WT.vidx hT hv2 Z Z Z Z Z Z Z Z Z zo (fun bl5 hbl5=>?_)
    refine WT.vst (y:=u.d[u.i-1]!) hT 0 hv2 hbl5 (gE (by simp;omega)) Z Z Z Z Z hl3 Z (fun _=>rfl) Z (fun Bl5 hBl5=>?_);refine WT.vidx hT hBl5 Z Z Z Z Z Z Z Z Z zo (fun bl6 hbl6=>?_);refine WT.vst (y:=u.d[u.i]!) hT 0 hBl5 hbl6 (gE (by simp;omega)) Z Z Z Z Z hl4 Z (fun _=>rfl) Z (fun Bl6 hBl6=>?_);rw[←swp_list] at hBl6;refine zC4 ?_;refine⟨zrC,?_⟩;refine zC4 ?_;refine⟨⟨u.i-1,Go.Sort.swp u.d u.i (u.i-1),Bl6⟩,by dsimp only;omega,sM,OwnLe.refl _,hBl6,by dsimp only;omega,?_⟩;rw[←heq2];show Go.Sort.insInner lt a (u.i-1) (Go.Sort.swp u.d u.i (u.i-1))=_;cases hi:u.i with
    | zero=>omega
    | succ j=>
     rw[hi] at hlt;simp only[Nat.add_sub_cancel] at hlt ⊢
     conv=>rhs;rw[Go.Sort.insInner]
     rw[if_pos (by simp[hlt];omega)]
   ·have hlt:lt u.d[u.i]! u.d[u.i-1]! = false:=by
     cases hh:lt u.d[u.i]! u.d[u.i-1]! with
     | false=>rfl
     | true=>exact absurd (hz.2 hh) (by simpa using hc)
    refine AW.exit ?_;refine zC4 ?_;exact⟨⟨s.i+1,u.d,u.B⟩,by dsimp only;omega,sM,OwnLe.refl _,hv2,stop (fun _=>hlt)⟩
  ·have hja:¬a<u.i:=by simp at hja;omega
   refine zC4 ?_;refine AW.cond Z (fun h=>(by cases h)) (fun _=>?_);refine AW.exit ?_;refine zC4 ?_;exact⟨⟨s.i+1,u.d,u.B⟩,by dsimp only;omega,sM,OwnLe.refl _,hv2,stop (fun h=>absurd h hja)⟩
 ·have h:¬s.i<b:=by simpa using h
  refine AW.exit ?_;refine⟨_,[_],rfl,zsb,_,rfl,?_⟩;rw[←heq1,Go.Sort.insOuter,if_neg h];exact hv1
theorem lrSift_spec(F:Frz){lt:Lr→Lr→Bool}{g:Nat}{first capt:List Value}(hc:CmpOk tLr lt F g first capt){a0:Option Addr}{m c:Nat}{B:List (Nat×Blk)}{d:Array Lr}(hv:Vec tLr F a0 m c B d.toList)(lo hi fst:Nat)(hlo:lo≤1000000)(hb:fst+hi≤m)(hm:m≤1000000) :
  Abs.Spec CC 273 [.slice a0 m c,.int .i64 lo,.int .i64 hi,.int .i64 fst,.func (.func g) ⟨first⟩ ⟨capt⟩] F [B] fun F' v o=>∃B',o=[B']∧Vec tLr F' a0 m c B' (Go.Sort.siftDown lt hi fst lo d).toList:=by
 obtain⟨⟨fn,hg,hgb⟩,hcmp⟩:=hc;refine Abs.Spec.fn (n:=82) Tryz.func273 rfl rfl fun own=>?_;refine zC4 ?_;refine AW.block ?_;refine AW.loopR (S:=VS Lr) (fun s=>[(10,.int .i64 (s.i:Nat))]) (fun s=>s.B::own) (fun s G=>Vec tLr G a0 m c s.B s.d.toList∧s.i≤1000000∧Go.Sort.siftDown lt hi fst s.i s.d=Go.Sort.siftDown lt hi fst lo d) (fun s=>hi-s.i) ⟨lo,d,B⟩
  sM oR ⟨hv,hlo,rfl⟩ ?_
 intro u F1 hF1 hP;obtain⟨hv2,hui,heq⟩:=hP;have hsz:m=u.d.size:=hv2.len;refine AW.block ?_;refine zC4 ?_;refine AW.cond Z (fun h=>?_) (fun h=>?_)
 ·have h:hi≤2*u.i+1:=by simp at h;omega
  refine AW.exit ?_;refine⟨_,[_],rfl,zsb,_,rfl,?_⟩;rw[←heq,Go.Sort.siftDown,dif_pos h];exact hv2
 ·have h:2*u.i+1<hi:=by simp at h;omega
  refine AW.skip ?_;refine AW.jn (S:=Nat) (fun ch=>[(11,.int .i64 (ch:Nat))]) (fun _=>u.B::own) (fun ch _=>u.i<ch∧ch<hi∧Go.Sort.siftDown lt hi fst u.i u.d=if (!lt u.d[fst+u.i]! u.d[fst+ch]!)=true then u.d else Go.Sort.siftDown lt hi fst ch (Go.Sort.swp u.d (fst+u.i) (fst+ch))) ?_ (fun ch F3 hF3 hch=>?_)
  ·have e1:(decide (2*u.i+1+1<hi)&&lt u.d[fst+(2*u.i+1)]! u.d[fst+(2*u.i+1)+1]!)=false→Go.Sort.siftDown lt hi fst u.i u.d=if (!lt u.d[fst+u.i]! u.d[fst+(2*u.i+1)]!)=true then u.d else Go.Sort.siftDown lt hi fst (2*u.i+1) (Go.Sort.swp u.d (fst+u.i) (fst+(2*u.i+1))):=by
    intro h1
    conv=>lhs;rw[Go.Sort.siftDown]
    rw[dif_neg zo];simp only[Bool.and_eq_true,decide_eq_true_eq,Bool.and_eq_false_imp] at h1 ⊢;rw[if_neg (fun h2=>by have:=h1 h2.1;rw[h2.2] at this;cases this)]
   refine zC4 ?_;refine WT.split 23 Z (fun h2=>?_) (fun h2=>?_)
   ·have h2:2*u.i+1+1<hi:=by simp at h2;omega
    refine zC4 ?_;refine WT.vidx hT hv2 Z Z Z Z Z Z Z Z Z zo (fun bl1 hbl1=>?_);refine WT.vldS hT 0 hv2 hbl1 (arr_at zo) Z Z Z Z Z Z Z Z Z (fun l1 hl1=>?_);refine zC4 ?_;refine WT.vidx hT hv2 Z Z Z Z Z Z Z Z Z zo (fun bl2 hbl2=>?_);refine WT.vldS hT 0 hv2 hbl2 (arr_at zo) Z Z Z Z Z Z Z Z Z (fun l2 hl2=>?_);refine WT.callC hg hgb Z Z Z Z Z Z Z (hcmp F1 hF1 l1 l2 _ _ hl1 hl2) (fun v hvz=>?_);obtain⟨z,rfl,hz⟩:=hvz;refine zC4 ?_;refine AW.cond Z (fun hc=>?_) (fun hc=>?_)
    ·have hlt:=hz.1 (by simpa using hc);refine zC4 ?_;refine⟨2*u.i+1+1,sM,OwnLe.refl _,by omega,h2,?_⟩
     conv=>lhs;rw[Go.Sort.siftDown]
     rw[dif_neg zo,if_pos (by simp[h2,hlt])];rw[dif_pos (show 2*u.i+2<hi by omega)]
    ·have hlt:lt u.d[fst+(2*u.i+1)]! u.d[fst+(2*u.i+1)+1]! = false:=by
      cases hh:lt u.d[fst+(2*u.i+1)]! u.d[fst+(2*u.i+1)+1]! with
      | false=>rfl
      | true=>exact absurd (hz.2 hh) (by simpa using hc)
     refine AW.skip ?_;exact⟨2*u.i+1,sM,OwnLe.refl _,by omega,h,e1 (by rw[hlt];simp)⟩
   ·have h2:¬2*u.i+1+1<hi:=by simp at h2;omega
    refine zC4 ?_;refine AW.cond Z (fun h=>(by cases h)) (fun _=>?_);refine AW.skip ?_;exact⟨2*u.i+1,sM,OwnLe.refl _,by omega,h,e1 (by simp[h2])⟩
  ·obtain⟨hc1,hc2,hceq⟩:=hch;have hv3:=hv2.mono hF3;refine zC4 ?_;refine WT.vidx hT hv3 Z Z Z Z Z Z Z Z Z zo (fun bl1 hbl1=>?_);refine WT.vldS hT 0 hv3 hbl1 (arr_at zo) Z Z Z Z Z Z Z Z Z (fun l1 hl1=>?_);refine zC4 ?_;refine WT.vidx hT hv3 Z Z Z Z Z Z Z Z Z zo (fun bl2 hbl2=>?_);refine WT.vldS hT 0 hv3 hbl2 (arr_at zo) Z Z Z Z Z Z Z Z Z (fun l2 hl2=>?_);refine WT.callC hg hgb Z Z Z Z Z Z Z (hcmp F3 (hF1.trans hF3) l1 l2 _ _ hl1 hl2) (fun v hvz=>?_);obtain⟨z,rfl,hz⟩:=hvz;refine zC4 ?_;refine AW.cond Z (fun hc=>?_) (fun hc=>?_)
   ·have hlt:lt u.d[fst+u.i]! u.d[fst+ch]! = false:=by
     cases hh:lt u.d[fst+u.i]! u.d[fst+ch]! with
     | false=>rfl
     | true=>exact absurd (hz.2 hh) (by simpa using hc)
    refine AW.ret ⟨_,[_],rfl,zsb,_,rfl,?_⟩;rw[←heq,hceq,hlt,if_pos (by decide)];exact hv3
   ·have hlt:=hz.1 (by simpa using hc);refine zC4 ?_;refine AW.draw (ps:=[(7,21)]) Z Z ?_;refine zC4 ?_;refine WT.vidx hT hv3 Z Z Z Z Z Z Z Z Z zo (fun bl3 hbl3=>?_);refine WT.vldS hT 0 hv3 hbl3 (arr_at zo) Z Z Z Z Z Z Z Z Z (fun l3 hl3=>?_);refine zC4 ?_;refine WT.vidx hT hv3 Z Z Z Z Z Z Z Z Z zo (fun bl4 hbl4=>?_);refine WT.vldS hT 0 hv3 hbl4 (arr_at zo) Z Z Z Z Z Z Z Z Z (fun l4 hl4=>?_);refine WT.vidx hT hv3 Z Z Z Z Z Z Z Z Z zo (fun bl5 hbl5=>?_);refine WT.vst (y:=u.d[fst+ch]!) hT 0 hv3 hbl5 (gE (by simp;omega)) Z Z Z Z Z hl3 Z (fun _=>rfl) Z (fun Bl5 hBl5=>?_)
    refine WT.vidx hT hBl5 Z Z Z Z Z Z Z Z Z zo (fun bl6 hbl6=>?_);refine WT.vst (y:=u.d[fst+u.i]!) hT 0 hBl5 hbl6 (gE (by simp;omega)) Z Z Z Z Z hl4 Z (fun _=>rfl) Z (fun Bl6 hBl6=>?_);rw[←swp_list] at hBl6;refine zC4 ?_;refine⟨zrC,?_⟩;refine zC4 ?_;refine⟨⟨ch,Go.Sort.swp u.d (fst+u.i) (fst+ch),Bl6⟩,by dsimp only;omega,sM,OwnLe.refl _,hBl6,by dsimp only;omega,?_⟩;rw[←heq,hceq,hlt,if_neg (by simp)]
theorem lrHeap_spec(F:Frz){lt:Lr→Lr→Bool}{g:Nat}{first capt:List Value}(hc:CmpOk tLr lt F g first capt){a0:Option Addr}{m c:Nat}{B:List (Nat×Blk)}{d:Array Lr}(hv:Vec tLr F a0 m c B d.toList)(a b:Nat)(hab:a<b)(hb:b≤m)(hm:m≤1000000) :
  Abs.Spec CC 247 [.slice a0 m c,.int .i64 a,.int .i64 b,.func (.func g) ⟨first⟩ ⟨capt⟩] F [B] fun F' v o=>∃B',o=[B']∧Vec tLr F' a0 m c B' (Go.Sort.heapSort lt d a b).toList:=by
 refine Abs.Spec.fn (n:=60) Tryz.func247 rfl rfl fun own=>?_;refine zC4 ?_;refine WT.quoL 2 Z Z Z Z Z Z (by decide) zo ?_;refine zC4 ?_;refine AW.know (v':=.int .i64 ((((b-a-1) / 2+1:Nat):Int)-1)) 11 Z (by congr 1;omega) ?_;refine AW.jnT (S:=VS Lr) (fun _=>[(11,.int .i64 (((0:Nat):Int)-1))]) (fun s=>s.B::own) (fun s G=>Vec tLr G a0 m c s.B s.d.toList∧s.d=Go.Sort.heapBuild lt (b-a) a ((b-a-1) / 2+1) d) ?_ (fun s F1 hF1 hP=>?_)
 ·refine AW.block ?_;refine AW.loopR (S:=VS Lr) (fun s=>[(11,.int .i64 ((s.i:Int)-1))]) (fun s=>s.B::own) (fun s G=>Vec tLr G a0 m c s.B s.d.toList∧s.i≤1000000∧Go.Sort.heapBuild lt (b-a) a s.i s.d=Go.Sort.heapBuild lt (b-a) a ((b-a-1) / 2+1) d) (fun s=>s.i) ⟨(b-a-1) / 2+1,d,B⟩
   sM oR ⟨hv,by dsimp only;omega,rfl⟩ ?_
  intro u F2 hF2 hP2;obtain⟨hv2,hui,heq⟩:=hP2;refine zC4 ?_;refine AW.cond Z (fun h=>?_) (fun h=>?_)
  ·have h:1≤u.i:=by simp at h;omega
   refine zC4 ?_;refine AW.block ?_;refine zC4 ?_;refine WT.know (v':=.int .i64 ((u.i-1:Nat):Int)) 25 Z (by congr 1;omega) ?_;refine WT.call1F 0 Tryz.func273 Z Z Z Z Z Z Z (fun _=>rfl) (lrSift_spec _ (hc.mono hF2) hv2 (u.i-1) (b-a) a zo zo hm) (fun F3 v B3 hF3 hv3=>?_);refine WT.nil ?_;refine AW.reg ?_;refine WT.easy hT Z Z Z Z Z ?_;refine WT.subT Z Z Z Z Z Z zo ?_;refine WT.know (v':=.int .i64 (((u.i-1:Nat):Int)-1)) 23 Z (by congr 1;omega) ?_;refine zC4 ?_;refine⟨⟨u.i-1,_,B3⟩,by dsimp only;omega,sM,OwnLe.refl _,hv3,by dsimp only;omega,?_⟩;rw[←heq];cases hi:u.i with
   | zero=>omega
   | succ j=>rfl
  ·have h:u.i=0:=by simp at h;omega
   refine AW.exit ?_;refine⟨⟨0,u.d,u.B⟩,SubK.of_map (by rw[h];rfl),OwnLe.refl _,hv2,?_⟩;rw[←heq,h];rfl
 ·obtain⟨hv1,hd1⟩:=hP;refine zC4 ?_;refine AW.know (v':=.int .i64 (((b-a:Nat):Int)-1)) 12 Z (by congr 1;omega) ?_;refine AW.block ?_;refine AW.loopR (S:=VS Lr) (fun s=>[(12,.int .i64 ((s.i:Int)-1))]) (fun s=>s.B::own) (fun s G=>Vec tLr G a0 m c s.B s.d.toList∧s.i≤b-a∧Go.Sort.heapPop lt a s.i s.d=Go.Sort.heapSort lt d a b) (fun s=>s.i) ⟨b-a,s.d,s.B⟩
   sM oR ⟨hv1,Nat.le_refl _,by dsimp only;rw[hd1];rfl⟩ ?_
  intro u F2 hF2 hP2;obtain⟨hv2,hui,heq⟩:=hP2;have hsz:m=u.d.size:=hv2.len;refine zC4 ?_;refine AW.cond Z (fun h=>?_) (fun h=>?_)
  ·have h:1≤u.i:=by simp at h;omega
   refine zC4 ?_;refine AW.block ?_;refine AW.seq (AW.draw (ps:=[(5,17)]) Z Z ?_);refine zC4 ?_;refine WT.know (v':=.int .i64 ((a+(u.i-1):Nat):Int)) 41 Z (by congr 1;omega) ?_;refine WT.know (v':=.int .i64 ((a+(u.i-1):Nat):Int)) 45 Z (by congr 1;omega) ?_;refine WT.vidx hT hv2 Z Z Z Z Z Z Z Z Z zo (fun bl3 hbl3=>?_);refine WT.vldS hT 0 hv2 hbl3 (arr_at zo) Z Z Z Z Z Z Z Z Z (fun l3 hl3=>?_);refine zC4 ?_;refine WT.vidx hT hv2 Z Z Z Z Z Z Z Z Z zo (fun bl4 hbl4=>?_);refine WT.vldS hT 0 hv2 hbl4 (arr_at zo) Z Z Z Z Z Z Z Z Z (fun l4 hl4=>?_)
   refine WT.vidx hT hv2 Z Z Z Z Z Z Z Z Z zo (fun bl5 hbl5=>?_);refine WT.vst (y:=u.d[a+(u.i-1)]!) hT 0 hv2 hbl5 (gE (by simp;omega)) Z Z Z Z Z hl3 Z (fun _=>rfl) Z (fun Bl5 hBl5=>?_);refine WT.vidx hT hBl5 Z Z Z Z Z Z Z Z Z zo (fun bl6 hbl6=>?_);refine WT.vst (y:=u.d[a]!) hT 0 hBl5 hbl6 (gE (by simp;omega)) Z Z Z Z Z hl4 Z (fun _=>rfl) Z (fun Bl6 hBl6=>?_);rw[←swp_list] at hBl6;refine zC4 ?_;refine⟨zrC,?_⟩;refine zC4 ?_;refine WT.know (v':=.int .i64 ((u.i-1:Nat):Int)) 56 Z (by congr 1;omega) ?_;refine WT.know (v':=.int .i64 ((0:Nat):Int)) 55 Z Z ?_
   refine WT.call1F 0 Tryz.func273 Z Z Z Z Z Z Z (fun _=>rfl) (lrSift_spec _ ((hc.mono hF1).mono hF2) hBl6 0 (u.i-1) a zo zo hm) (fun F3 v B3 hF3 hv3=>?_);refine WT.nil ?_;refine AW.reg ?_;refine WT.easy hT Z Z Z Z Z ?_;refine WT.subT Z Z Z Z Z Z zo ?_;refine WT.know (v':=.int .i64 (((u.i-1:Nat):Int)-1)) 35 Z (by congr 1;omega) ?_;refine zC4 ?_;refine⟨⟨u.i-1,_,B3⟩,by dsimp only;omega,sM,OwnLe.refl _,hv3,by dsimp only;omega,?_⟩;rw[←heq];cases hi:u.i with
   | zero=>omega
   | succ j=>rfl
  ·have h:u.i=0:=by simp at h;omega
   refine AW.exit ?_;refine⟨_,[_],rfl,zsb,_,rfl,?_⟩;rw[←heq,h];exact hv2
theorem lrRev_spec(F:Frz){cv:Value}{a0:Option Addr}{m c:Nat}{B:List (Nat×Blk)}{d:Array Lr}(hv:Vec tLr F a0 m c B d.toList)(a b:Nat)(hab:a<b)(hb:b≤m)(hm:m≤1000000) :
  Abs.Spec CC 250 [.slice a0 m c,.int .i64 a,.int .i64 b,cv] F [B] fun F' v o=>∃B',o=[B']∧Vec tLr F' a0 m c B' (Go.Sort.reverseRange d a b).toList:=by
 refine Abs.Spec.fn (n:=34) Tryz.func250 rfl rfl fun own=>?_;refine zC4 ?_;refine AW.block ?_;refine AW.loopR (S:=Nat×VS Lr) (fun s=>[(8,.int .i64 (s.2.i:Nat)),(9,.int .i64 (s.1:Nat))]) (fun s=>s.2.B::own) (fun s G=>Vec tLr G a0 m c s.2.B s.2.d.toList∧s.1<m∧s.2.i≤m∧Go.Sort.reverseLoop s.2.i s.1 s.2.d=Go.Sort.reverseRange d a b) (fun s=>s.1-s.2.i) (b-1,⟨a,d,B⟩)
  sM oR ⟨hv,by dsimp only;omega,by dsimp only;omega,rfl⟩ ?_
 intro u F2 hF2 hP2;obtain⟨hv2,hj,hi,heq⟩:=hP2;have hsz:m=u.2.d.size:=hv2.len;refine zC4 ?_;refine AW.cond Z (fun h=>?_) (fun h=>?_)
 ·have h:u.2.i<u.1:=by simp at h;omega
  refine zC4 ?_;refine AW.block ?_;refine zC4 ?_;refine WT.vidx hT hv2 Z Z Z Z Z Z Z Z Z zo (fun bl3 hbl3=>?_);refine WT.vldS hT 0 hv2 hbl3 (arr_at zo) Z Z Z Z Z Z Z Z Z (fun l3 hl3=>?_);refine zC4 ?_;refine WT.vidx hT hv2 Z Z Z Z Z Z Z Z Z zo (fun bl4 hbl4=>?_);refine WT.vldS hT 0 hv2 hbl4 (arr_at zo) Z Z Z Z Z Z Z Z Z (fun l4 hl4=>?_);refine WT.vidx hT hv2 Z Z Z Z Z Z Z Z Z zo (fun bl5 hbl5=>?_);refine WT.vst (y:=u.2.d[u.1]!) hT 0 hv2 hbl5 (gE (by simp;omega)) Z Z Z Z Z hl3 Z (fun _=>rfl) Z (fun Bl5 hBl5=>?_);refine WT.vidx hT hBl5 Z Z Z Z Z Z Z Z Z zo (fun bl6 hbl6=>?_)
  refine WT.vst (y:=u.2.d[u.2.i]!) hT 0 hBl5 hbl6 (gE (by simp;omega)) Z Z Z Z Z hl4 Z (fun _=>rfl) Z (fun Bl6 hBl6=>?_);rw[←swp_list] at hBl6;refine zC4 ?_;refine⟨(u.1-1,⟨u.2.i+1,Go.Sort.swp u.2.d u.2.i u.1,Bl6⟩),by dsimp only;omega,sM,OwnLe.refl _,hBl6,by dsimp only;omega,by dsimp only;omega,?_⟩;rw[←heq]
  conv=>rhs;rw[Go.Sort.reverseLoop]
  rw[if_pos h]
 ·have h:¬u.2.i<u.1:=by simp at h;omega
  refine AW.exit ?_;refine⟨_,[_],rfl,zsb,_,rfl,?_⟩;rw[←heq,Go.Sort.reverseLoop,if_neg h];exact hv2
theorem shE8{p:Prop} (h:p:=by
 refine zC4 ?_;refine WT.vidx hT hv6 Z Z Z Z Z Z Z Z Z zo (fun bl5 hbl5=>?_);refine WT.vldS hT 0 hv6 hbl5 (arr_at zo) Z Z Z Z Z Z Z Z Z (fun l5 hl5=>?_);refine zC4 ?_;refine WT.vidx hT hv6 Z Z Z Z Z Z Z Z Z zo (fun bl6 hbl6=>?_);refine WT.vldS hT 0 hv6 hbl6 (arr_at zo) Z Z Z Z Z Z Z Z Z (fun l6 hl6=>?_);refine WT.vidx hT hv6 Z Z Z Z Z Z Z Z Z zo (fun bl7 hbl7=>?_);refine WT.vst (y:=u.2.d[j2]!) hT 0 hv6 hbl7 (gE (by simp;omega)) Z Z Z Z Z hl5 Z (fun _=>rfl) Z (fun Bl7 hBl7=>?_);refine WT.vidx hT hBl7 Z Z Z Z Z Z Z Z Z zo (fun bl8 hbl8=>?_)
 refine WT.vst (y:=u.2.d[i2]!) hT 0 hBl7 hbl8 (gE (by simp;omega)) Z Z Z Z Z hl6 Z (fun _=>rfl) Z (fun Bl8 hBl8=>?_);rw[←swp_list] at hBl8;refine zC4 ?_;refine⟨(i2+1,⟨j2-1,Go.Sort.swp u.2.d i2 j2,Bl8⟩),by dsimp only;omega,sM,OwnLe.refl _,hBl8,by dsimp only;omega,by dsimp only;omega,by dsimp only;omega,?_⟩;rw[hloop,if_neg h]):p:=h
theorem lrPart_spec(F:Frz){lt:Lr→Lr→Bool}{g:Nat}{first capt:List Value}(hc:CmpOk tLr lt F g first capt){a0:Option Addr}{m c:Nat}{B:List (Nat×Blk)}{d:Array Lr}(hv:Vec tLr F a0 m c B d.toList)(a b pivot:Nat)(hp1:a≤pivot)(hp2:pivot<b)(hb:b≤m)(hm:m≤1000000) :
  Abs.Spec CC 253 [.slice a0 m c,.int .i64 a,.int .i64 b,.int .i64 pivot,.func (.func g) ⟨first⟩ ⟨capt⟩] F [B] fun F' v o=>∃B',o=[B']∧v=.tuple ⟨[.int .i64 ((Go.Sort.partition lt d a b pivot).1:Nat),.bool (Go.Sort.partition lt d a b pivot).2.1]⟩∧Vec tLr F' a0 m c B' (Go.Sort.partition lt d a b pivot).2.2.toList:=by
 obtain⟨⟨fn,hg,hgb⟩,hcmp⟩:=hc;have hsz:m=d.size:=hv.len;refine Abs.Spec.fn (n:=178) Tryz.func253 rfl rfl fun own=>?_;refine zC4 ?_;refine WT.vidx hT hv Z Z Z Z Z Z Z Z Z zo (fun bl1 hbl1=>?_);refine WT.vldS hT 0 hv hbl1 (arr_at zo) Z Z Z Z Z Z Z Z Z (fun l1 hl1=>?_);refine zC4 ?_;refine WT.vidx hT hv Z Z Z Z Z Z Z Z Z zo (fun bl2 hbl2=>?_);refine WT.vldS hT 0 hv hbl2 (arr_at zo) Z Z Z Z Z Z Z Z Z (fun l2 hl2=>?_);refine WT.vidx hT hv Z Z Z Z Z Z Z Z Z zo (fun bl3 hbl3=>?_);refine WT.vst (y:=d[pivot]!) hT 0 hv hbl3 (gE (by simp;omega)) Z Z Z Z Z hl1 Z (fun _=>rfl) Z (fun Bl3 hBl3=>?_)
 refine WT.vidx hT hBl3 Z Z Z Z Z Z Z Z Z zo (fun bl4 hbl4=>?_);refine WT.vst (y:=d[a]!) hT 0 hBl3 hbl4 (gE (by simp;omega)) Z Z Z Z Z hl2 Z (fun _=>rfl) Z (fun Bl4 hBl4=>?_);rw[←swp_list] at hBl4;obtain⟨d1,hd1⟩:∃d1,Go.Sort.swp d a pivot=d1:=⟨_,rfl⟩;rw[hd1] at hBl4;have hsz1:m=d1.size:=hBl4.len;refine zC4 ?_;obtain⟨i1,hi1⟩:∃i1,Go.Sort.scanUp (fun x=>lt x d1[a]!) d1 (b-1) (a+1)=i1:=⟨_,rfl⟩;obtain⟨j1,hj1⟩:∃j1,Go.Sort.scanDown (fun x=>!lt x d1[a]!) d1 i1 (b-1)=j1:=⟨_,rfl⟩;obtain⟨u1,u2,u3,u4⟩:=Go.Sort.scanUp_spec (fun x=>lt x d1[a]!) d1 (b-1) _ (a+1) rfl
 obtain⟨v1,v2,v3,v4⟩:=Go.Sort.scanDown_spec (fun x=>!lt x d1[a]!) d1 i1 (b-1);rw[hi1] at u1 u2 u4;rw[hj1] at v1 v2 v4;have u2:=u2 zo;have v2:=v2 zo;refine AW.jnT (S:=Unit) (fun _=>[(12,.int .i64 (Go.Sort.scanUp (fun x=>lt x d1[a]!) d1 (b-1) (a+1):Nat))]) (fun _=>(Bl4::own)) (fun _ _=>True) ?_ (fun _ F1 hF1 _=>?_)
 ·refine AW.block ?_;refine AW.loopR (S:=Nat) (fun i=>[(12,.int .i64 (i:Nat))]) (fun _=>(Bl4::own)) (fun i _=>(a+1)≤i∧i≤(b-1)+1∧Go.Sort.scanUp (fun x=>lt x d1[a]!) d1 (b-1) i=Go.Sort.scanUp (fun x=>lt x d1[a]!) d1 (b-1) (a+1)) (fun i=>(b-1)+1-i) (a+1) sM oR ⟨Nat.le_refl _,by omega,rfl⟩ ?_;intro i G hG hP;obtain⟨hi1,hi2,hi3⟩:=hP;have hvG:=hBl4.mono hG;refine zC4 ?_;refine WT.split 35 Z (fun h=>?_) (fun h=>?_)
  ·have h:i≤(b-1):=by simp at h;omega
   refine zC4 ?_;refine WT.vidx hT hvG Z Z Z Z Z Z Z Z Z zo (fun bl1 hbl1=>?_);refine WT.vldS hT 0 hvG hbl1 (arr_at zo) Z Z Z Z Z Z Z Z Z (fun l1 hl1=>?_);refine zC4 ?_;refine WT.vidx hT hvG Z Z Z Z Z Z Z Z Z zo (fun bl2 hbl2=>?_);refine WT.vldS hT 0 hvG hbl2 (arr_at zo) Z Z Z Z Z Z Z Z Z (fun l2 hl2=>?_);refine WT.callC hg hgb Z Z Z Z Z Z Z (hcmp G ((Frz.le.refl F).trans hG) l1 l2 _ _ hl1 hl2) (fun v hvz=>?_);obtain⟨z,rfl,hz⟩:=hvz;refine zC4 ?_;refine AW.cond Z (fun hc=>?_) (fun hc=>?_)
   ·have hlt:=hz.1 (by simpa using hc);refine zC4 ?_;refine AW.block ?_;refine zC4 ?_;refine⟨i+1,by omega,sM,OwnLe.refl _,by omega,by omega,?_⟩;rw[←hi3]
    conv=>rhs;rw[Go.Sort.scanUp]
    rw[if_pos (by simp[h,hlt])]
   ·have hlt:=(Bool.eq_false_iff.2 (fun hh=>absurd (hz.2 hh) (by simpa using hc)):lt d1[i]! d1[a]! = false);refine AW.exit ?_;refine⟨(),SubK.of_map (by rw[←hi3,Go.Sort.scanUp,if_neg (by simp[hlt])];rfl),OwnLe.refl _,trivial⟩
  ·have h:¬i≤(b-1):=by simp at h;omega
   refine zC4 ?_;refine AW.cond Z (fun h=>(by cases h)) (fun _=>?_);refine AW.exit ?_;refine⟨(),SubK.of_map (by rw[←hi3,Go.Sort.scanUp,if_neg (by simp[h])];rfl),OwnLe.refl _,trivial⟩
 rw[hi1];have hv1:=hBl4.mono hF1;refine AW.seq ?_;refine AW.jnT (S:=Unit) (fun _=>[(13,.int .i64 (Go.Sort.scanDown (fun x=>!lt x d1[a]!) d1 i1 (b-1):Nat))]) (fun _=>(Bl4::own)) (fun _ _=>True) ?_ (fun _ F2 hF2 _=>?_)
 ·refine AW.block ?_;refine AW.loopR (S:=Nat) (fun j=>[(13,.int .i64 (j:Nat))]) (fun _=>(Bl4::own)) (fun j _=>j≤(b-1)∧i1≤j+1∧Go.Sort.scanDown (fun x=>!lt x d1[a]!) d1 i1 j=Go.Sort.scanDown (fun x=>!lt x d1[a]!) d1 i1 (b-1)) (fun j=>j) (b-1) sM oR ⟨Nat.le_refl _,by omega,rfl⟩ ?_;intro j G hG hP;obtain⟨hj1,hj2,hj3⟩:=hP;have hvG:=hv1.mono hG;have one:∀q,i1≤j→(fun x=>!lt x d1[a]!) d1[j]! = q→Go.Sort.scanDown (fun x=>!lt x d1[a]!) d1 i1 j=if q=true then Go.Sort.scanDown (fun x=>!lt x d1[a]!) d1 i1 (j-1) else j:=by
   intro q h1 h2;cases j with
   | zero=>omega
   | succ k=>
    rw[Go.Sort.scanDown,Nat.add_sub_cancel];subst h2;simp[h1]
  refine zC4 ?_;refine WT.split 53 Z (fun h=>?_) (fun h=>?_)
  ·have h:i1≤j:=by simp at h;omega
   refine zC4 ?_;refine WT.vidx hT hvG Z Z Z Z Z Z Z Z Z zo (fun bl1 hbl1=>?_);refine WT.vldS hT 0 hvG hbl1 (arr_at zo) Z Z Z Z Z Z Z Z Z (fun l1 hl1=>?_);refine zC4 ?_;refine WT.vidx hT hvG Z Z Z Z Z Z Z Z Z zo (fun bl2 hbl2=>?_);refine WT.vldS hT 0 hvG hbl2 (arr_at zo) Z Z Z Z Z Z Z Z Z (fun l2 hl2=>?_);refine WT.callC hg hgb Z Z Z Z Z Z Z (hcmp G (hF1.trans hG) l1 l2 _ _ hl1 hl2) (fun v hvz=>?_);obtain⟨z,rfl,hz⟩:=hvz;refine zC4 ?_;refine AW.cond Z (fun hc=>?_) (fun hc=>?_)
   ·have hlt:=(Bool.eq_false_iff.2 (fun hh=>absurd (hz.2 hh) (by simpa using hc)):lt d1[j]! d1[a]! = false);refine zC4 ?_;refine AW.block ?_;refine zC4 ?_;refine⟨j-1,by omega,sM,OwnLe.refl _,by omega,by omega,?_⟩;rw[←hj3,one true h (by simp[hlt]),if_pos rfl]
   ·have hlt:=hz.1 (by simpa using hc);refine AW.exit ?_;refine⟨(),SubK.of_map (by rw[←hj3,one false h (by simp[hlt]),if_neg (by decide)];rfl),OwnLe.refl _,trivial⟩
  ·have h:¬i1≤j:=by simp at h;omega
   refine zC4 ?_;refine AW.cond Z (fun h=>(by cases h)) (fun _=>?_);refine AW.exit ?_;have e:Go.Sort.scanDown (fun x=>!lt x d1[a]!) d1 i1 j=j:=by
    cases j with
    | zero=>rfl
    | succ k=>rw[Go.Sort.scanDown,if_neg (by simp;omega)]
   refine⟨(),SubK.of_map (by rw[←hj3,e];rfl),OwnLe.refl _,trivial⟩
 rw[hj1];have hv2:=hv1.mono hF2;refine zC4 ?_;have hpart:Go.Sort.partition lt d a b pivot=if i1 > j1 then (j1,true,Go.Sort.swp d1 j1 a) else
   ((Go.Sort.partLoop lt a (i1+1) (j1-1) (Go.Sort.swp d1 i1 j1)).1,false,Go.Sort.swp (Go.Sort.partLoop lt a (i1+1) (j1-1) (Go.Sort.swp d1 i1 j1)).2 (Go.Sort.partLoop lt a (i1+1) (j1-1) (Go.Sort.swp d1 i1 j1)).1 a):=by
  simp only[Go.Sort.partition,hd1,hi1,hj1]
 refine AW.cond Z (fun h=>?_) (fun h=>?_)
 ·have h:j1<i1:=by simp at h;omega
  refine zC4 ?_;refine WT.vidx hT hv2 Z Z Z Z Z Z Z Z Z zo (fun bl1 hbl1=>?_);refine WT.vldS hT 0 hv2 hbl1 (arr_at zo) Z Z Z Z Z Z Z Z Z (fun l1 hl1=>?_);refine zC4 ?_;refine WT.vidx hT hv2 Z Z Z Z Z Z Z Z Z zo (fun bl2 hbl2=>?_);refine WT.vldS hT 0 hv2 hbl2 (arr_at zo) Z Z Z Z Z Z Z Z Z (fun l2 hl2=>?_);refine WT.vidx hT hv2 Z Z Z Z Z Z Z Z Z zo (fun bl3 hbl3=>?_);refine WT.vst (y:=d1[a]!) hT 0 hv2 hbl3 (gE (by simp;omega)) Z Z Z Z Z hl1 Z (fun _=>rfl) Z (fun Bl3 hBl3=>?_);refine WT.vidx hT hBl3 Z Z Z Z Z Z Z Z Z zo (fun bl4 hbl4=>?_)
  refine WT.vst (y:=d1[j1]!) hT 0 hBl3 hbl4 (gE (by simp;omega)) Z Z Z Z Z hl2 Z (fun _=>rfl) Z (fun Bl4 hBl4=>?_);rw[←swp_list] at hBl4;refine zC4 ?_;refine AW.ret ⟨_,[_],⟨_,_,rfl,⟨_,_,rfl,rfl,rfl⟩,rfl⟩,zsb,_,rfl,?_,?_⟩
  ·rw[hpart,if_pos h];rfl
  ·rw[hpart,if_pos h];exact hBl4
 ·have h:¬j1<i1:=by simp at h;omega
  have hlt1:i1<j1:=by
   rcases Nat.lt_or_ge i1 j1 with h1 | h1
   ·exact h1
   ·obtain rfl:i1=j1:=by omega
    have e1:=u4 zo;have e2:=v4 (Nat.le_refl _) zo;rw[e1] at e2;cases e2
  rw[if_neg h] at hpart;refine zC4 ?_;refine WT.vidx hT hv2 Z Z Z Z Z Z Z Z Z zo (fun bl1 hbl1=>?_);refine WT.vldS hT 0 hv2 hbl1 (arr_at zo) Z Z Z Z Z Z Z Z Z (fun l1 hl1=>?_);refine zC4 ?_;refine WT.vidx hT hv2 Z Z Z Z Z Z Z Z Z zo (fun bl2 hbl2=>?_);refine WT.vldS hT 0 hv2 hbl2 (arr_at zo) Z Z Z Z Z Z Z Z Z (fun l2 hl2=>?_);refine WT.vidx hT hv2 Z Z Z Z Z Z Z Z Z zo (fun bl3 hbl3=>?_);refine WT.vst (y:=d1[j1]!) hT 0 hv2 hbl3 (gE (by simp;omega)) Z Z Z Z Z hl1 Z (fun _=>rfl) Z (fun Bl3 hBl3=>?_);refine WT.vidx hT hBl3 Z Z Z Z Z Z Z Z Z zo (fun bl4 hbl4=>?_)
  refine WT.vst (y:=d1[i1]!) hT 0 hBl3 hbl4 (gE (by simp;omega)) Z Z Z Z Z hl2 Z (fun _=>rfl) Z (fun Bl4 hBl4=>?_);rw[←swp_list] at hBl4;refine zC4 ?_;refine AW.jnT (S:=Nat×VS Lr) (fun s=>[(12,.int .i64 (s.1:Nat)),(13,.int .i64 (s.2.i:Nat))]) (fun s=>s.2.B::own) (fun s G=>Vec tLr G a0 m c s.2.B s.2.d.toList∧a≤s.2.i∧s.2.i<b∧(s.2.i,s.2.d)=Go.Sort.partLoop lt a (i1+1) (j1-1) (Go.Sort.swp d1 i1 j1)) ?_ (fun s F3 hF3 hP=>?_)
  ·refine AW.block ?_;refine AW.loopR (S:=Nat×VS Lr) (fun s=>[(12,.int .i64 (s.1:Nat)),(13,.int .i64 (s.2.i:Nat))]) (fun s=>s.2.B::own) (fun s G=>Vec tLr G a0 m c s.2.B s.2.d.toList∧a<s.1∧s.1≤s.2.i+1∧s.2.i<b∧Go.Sort.partLoop lt a s.1 s.2.i s.2.d=Go.Sort.partLoop lt a (i1+1) (j1-1) (Go.Sort.swp d1 i1 j1)) (fun s=>s.2.i+1-s.1) (i1+1,⟨j1-1,Go.Sort.swp d1 i1 j1,Bl4⟩)
    sM oR ⟨hBl4,by dsimp only;omega,by dsimp only;omega,by dsimp only;omega,rfl⟩ ?_
   intro u F4 hF4 hP4;obtain⟨hv4,ha4,hij4,hb4,heq4⟩:=hP4;have hF4':=(hF1.trans hF2).trans hF4;have hsz4:m=u.2.d.size:=hv4.len;obtain⟨i2,hi2⟩:∃i2,Go.Sort.scanUp (fun x=>lt x u.2.d[a]!) u.2.d u.2.i u.1=i2:=⟨_,rfl⟩;obtain⟨j2,hj2⟩:∃j2,Go.Sort.scanDown (fun x=>!lt x u.2.d[a]!) u.2.d i2 u.2.i=j2:=⟨_,rfl⟩;obtain⟨w1,w2,w3,w4⟩:=Go.Sort.scanUp_spec (fun x=>lt x u.2.d[a]!) u.2.d u.2.i _ u.1 rfl;obtain⟨x1,x2,x3,x4⟩:=Go.Sort.scanDown_spec (fun x=>!lt x u.2.d[a]!) u.2.d i2 u.2.i;rw[hi2] at w1 w2 w4;rw[hj2] at x1 x2 x4;have w2:=w2 hij4;have x2:=x2 zo;have hloop:=Go.Sort.partLoop_eq lt a u.1 u.2.i u.2.d
   rw[hi2,hj2,heq4] at hloop;refine AW.block ?_;refine AW.seq ?_;refine AW.jnT (S:=Unit) (fun _=>[(12,.int .i64 (Go.Sort.scanUp (fun x=>lt x u.2.d[a]!) u.2.d u.2.i u.1:Nat))]) (fun _=>(u.2.B::own)) (fun _ _=>True) ?_ (fun _ F5 hF5 _=>?_)
   ·refine AW.block ?_;refine AW.loopR (S:=Nat) (fun i=>[(12,.int .i64 (i:Nat))]) (fun _=>(u.2.B::own)) (fun i _=>u.1≤i∧i≤u.2.i+1∧Go.Sort.scanUp (fun x=>lt x u.2.d[a]!) u.2.d u.2.i i=Go.Sort.scanUp (fun x=>lt x u.2.d[a]!) u.2.d u.2.i u.1) (fun i=>u.2.i+1-i) u.1 sM oR ⟨Nat.le_refl _,by omega,rfl⟩ ?_;intro i G hG hP;obtain⟨hi1,hi2,hi3⟩:=hP;have hvG:=hv4.mono hG;refine zC4 ?_;refine WT.split 108 Z (fun h=>?_) (fun h=>?_)
    ·have h:i≤u.2.i:=by simp at h;omega
     refine zC4 ?_;refine WT.vidx hT hvG Z Z Z Z Z Z Z Z Z zo (fun bl1 hbl1=>?_);refine WT.vldS hT 0 hvG hbl1 (arr_at zo) Z Z Z Z Z Z Z Z Z (fun l1 hl1=>?_);refine zC4 ?_;refine WT.vidx hT hvG Z Z Z Z Z Z Z Z Z zo (fun bl2 hbl2=>?_);refine WT.vldS hT 0 hvG hbl2 (arr_at zo) Z Z Z Z Z Z Z Z Z (fun l2 hl2=>?_);refine WT.callC hg hgb Z Z Z Z Z Z Z (hcmp G (hF4'.trans hG) l1 l2 _ _ hl1 hl2) (fun v hvz=>?_);obtain⟨z,rfl,hz⟩:=hvz;refine zC4 ?_;refine AW.cond Z (fun hc=>?_) (fun hc=>?_)
     ·have hlt:=hz.1 (by simpa using hc);refine zC4 ?_;refine AW.block ?_;refine zC4 ?_;refine⟨i+1,by omega,sM,OwnLe.refl _,by omega,by omega,?_⟩;rw[←hi3]
      conv=>rhs;rw[Go.Sort.scanUp]
      rw[if_pos (by simp[h,hlt])]
     ·have hlt:=(Bool.eq_false_iff.2 (fun hh=>absurd (hz.2 hh) (by simpa using hc)):lt u.2.d[i]! u.2.d[a]! = false);refine AW.exit ?_;refine⟨(),SubK.of_map (by rw[←hi3,Go.Sort.scanUp,if_neg (by simp[hlt])];rfl),OwnLe.refl _,trivial⟩
    ·have h:¬i≤u.2.i:=by simp at h;omega
     refine zC4 ?_;refine AW.cond Z (fun h=>(by cases h)) (fun _=>?_);refine AW.exit ?_;refine⟨(),SubK.of_map (by rw[←hi3,Go.Sort.scanUp,if_neg (by simp[h])];rfl),OwnLe.refl _,trivial⟩
   rw[hi2];have hv5:=hv4.mono hF5;have hF5':=hF4'.trans hF5;refine AW.seq ?_;refine AW.jnT (S:=Unit) (fun _=>[(13,.int .i64 (Go.Sort.scanDown (fun x=>!lt x u.2.d[a]!) u.2.d i2 u.2.i:Nat))]) (fun _=>(u.2.B::own)) (fun _ _=>True) ?_ (fun _ F6 hF6 _=>?_)
   ·refine AW.block ?_;refine AW.loopR (S:=Nat) (fun j=>[(13,.int .i64 (j:Nat))]) (fun _=>(u.2.B::own)) (fun j _=>j≤u.2.i∧i2≤j+1∧Go.Sort.scanDown (fun x=>!lt x u.2.d[a]!) u.2.d i2 j=Go.Sort.scanDown (fun x=>!lt x u.2.d[a]!) u.2.d i2 u.2.i) (fun j=>j) u.2.i sM oR ⟨Nat.le_refl _,by omega,rfl⟩ ?_;intro j G hG hP;obtain⟨hj1,hj2,hj3⟩:=hP;have hvG:=hv5.mono hG;have one:∀q,i2≤j→(fun x=>!lt x u.2.d[a]!) u.2.d[j]! = q→Go.Sort.scanDown (fun x=>!lt x u.2.d[a]!) u.2.d i2 j=if q=true then Go.Sort.scanDown (fun x=>!lt x u.2.d[a]!) u.2.d i2 (j-1) else j:=by
     intro q h1 h2;cases j with
     | zero=>omega
     | succ k=>
      rw[Go.Sort.scanDown,Nat.add_sub_cancel];subst h2;simp[h1]
    refine zC4 ?_;refine WT.split 126 Z (fun h=>?_) (fun h=>?_)
    ·have h:i2≤j:=by simp at h;omega
     refine zC4 ?_;refine WT.vidx hT hvG Z Z Z Z Z Z Z Z Z zo (fun bl1 hbl1=>?_);refine WT.vldS hT 0 hvG hbl1 (arr_at zo) Z Z Z Z Z Z Z Z Z (fun l1 hl1=>?_);refine zC4 ?_;refine WT.vidx hT hvG Z Z Z Z Z Z Z Z Z zo (fun bl2 hbl2=>?_);refine WT.vldS hT 0 hvG hbl2 (arr_at zo) Z Z Z Z Z Z Z Z Z (fun l2 hl2=>?_);refine WT.callC hg hgb Z Z Z Z Z Z Z (hcmp G (hF5'.trans hG) l1 l2 _ _ hl1 hl2) (fun v hvz=>?_);obtain⟨z,rfl,hz⟩:=hvz;refine zC4 ?_;refine AW.cond Z (fun hc=>?_) (fun hc=>?_)
     ·have hlt:=(Bool.eq_false_iff.2 (fun hh=>absurd (hz.2 hh) (by simpa using hc)):lt u.2.d[j]! u.2.d[a]! = false);refine zC4 ?_;refine AW.block ?_;refine zC4 ?_;refine⟨j-1,by omega,sM,OwnLe.refl _,by omega,by omega,?_⟩;rw[←hj3,one true h (by simp[hlt]),if_pos rfl]
     ·have hlt:=hz.1 (by simpa using hc);refine AW.exit ?_;refine⟨(),SubK.of_map (by rw[←hj3,one false h (by simp[hlt]),if_neg (by decide)];rfl),OwnLe.refl _,trivial⟩
    ·have h:¬i2≤j:=by simp at h;omega
     refine zC4 ?_;refine AW.cond Z (fun h=>(by cases h)) (fun _=>?_);refine AW.exit ?_;have e:Go.Sort.scanDown (fun x=>!lt x u.2.d[a]!) u.2.d i2 j=j:=by
      cases j with
      | zero=>rfl
      | succ k=>rw[Go.Sort.scanDown,if_neg (by simp;omega)]
     refine⟨(),SubK.of_map (by rw[←hj3,e];rfl),OwnLe.refl _,trivial⟩
   rw[hj2];have hv6:=hv5.mono hF6;refine zC4 ?_;refine AW.cond Z (fun h=>?_) (fun h=>?_)
   ·have h:j2<i2:=by simp at h;omega
    refine AW.exit ?_;refine⟨(i2,⟨j2,u.2.d,u.2.B⟩),sM,OwnLe.refl _,hv6,by dsimp only;omega,by dsimp only;omega,?_⟩;rw[hloop,if_pos h]
   ·have h:¬j2<i2:=by simp at h;omega
    have hlt2:i2<j2:=by
     rcases Nat.lt_or_ge i2 j2 with h1 | h1
     ·exact h1
     ·obtain rfl:i2=j2:=by omega
      have e1:=w4 zo;have e2:=x4 (Nat.le_refl _) zo;rw[e1] at e2;cases e2
    exact shE8
  ·obtain⟨hv3,ha3,hb3,heq3⟩:=hP;have hsz3:m=s.2.d.size:=hv3.len;rw[←heq3] at hpart;refine zC4 ?_;refine WT.vidx hT hv3 Z Z Z Z Z Z Z Z Z zo (fun bl5 hbl5=>?_);refine WT.vldS hT 0 hv3 hbl5 (arr_at zo) Z Z Z Z Z Z Z Z Z (fun l5 hl5=>?_);refine zC4 ?_;refine WT.vidx hT hv3 Z Z Z Z Z Z Z Z Z zo (fun bl6 hbl6=>?_);refine WT.vldS hT 0 hv3 hbl6 (arr_at zo) Z Z Z Z Z Z Z Z Z (fun l6 hl6=>?_);refine WT.vidx hT hv3 Z Z Z Z Z Z Z Z Z zo (fun bl7 hbl7=>?_);refine WT.vst (y:=s.2.d[a]!) hT 0 hv3 hbl7 (gE (by simp;omega)) Z Z Z Z Z hl5 Z (fun _=>rfl) Z (fun Bl7 hBl7=>?_)
   refine WT.vidx hT hBl7 Z Z Z Z Z Z Z Z Z zo (fun bl8 hbl8=>?_);refine WT.vst (y:=s.2.d[s.2.i]!) hT 0 hBl7 hbl8 (gE (by simp;omega)) Z Z Z Z Z hl6 Z (fun _=>rfl) Z (fun Bl8 hBl8=>?_);rw[←swp_list] at hBl8;refine zC4 ?_;refine AW.ret ⟨_,[_],⟨_,_,rfl,⟨_,_,rfl,rfl,rfl⟩,rfl⟩,zsb,_,rfl,?_,?_⟩
   ·rw[hpart];rfl
   ·rw[hpart];exact hBl8
theorem lrPartEq_spec(F:Frz){lt:Lr→Lr→Bool}{g:Nat}{first capt:List Value}(hc:CmpOk tLr lt F g first capt){a0:Option Addr}{m c:Nat}{B:List (Nat×Blk)}{d:Array Lr}(hv:Vec tLr F a0 m c B d.toList)(a b pivot:Nat)(hp1:a≤pivot)(hp2:pivot<b)(hb:b≤m)(hm:m≤1000000) :
  Abs.Spec CC 252 [.slice a0 m c,.int .i64 a,.int .i64 b,.int .i64 pivot,.func (.func g) ⟨first⟩ ⟨capt⟩] F [B] fun F' v o=>∃B',o=[B']∧v=.int .i64 ((Go.Sort.partitionEqual lt d a b pivot).1:Nat)∧Vec tLr F' a0 m c B' (Go.Sort.partitionEqual lt d a b pivot).2.toList:=by
 obtain⟨⟨fn,hg,hgb⟩,hcmp⟩:=hc;have hsz:m=d.size:=hv.len;refine Abs.Spec.fn (n:=90) Tryz.func252 rfl rfl fun own=>?_;refine zC4 ?_;refine WT.vidx hT hv Z Z Z Z Z Z Z Z Z zo (fun bl1 hbl1=>?_);refine WT.vldS hT 0 hv hbl1 (arr_at zo) Z Z Z Z Z Z Z Z Z (fun l1 hl1=>?_);refine zC4 ?_;refine WT.vidx hT hv Z Z Z Z Z Z Z Z Z zo (fun bl2 hbl2=>?_);refine WT.vldS hT 0 hv hbl2 (arr_at zo) Z Z Z Z Z Z Z Z Z (fun l2 hl2=>?_);refine WT.vidx hT hv Z Z Z Z Z Z Z Z Z zo (fun bl3 hbl3=>?_);refine WT.vst (y:=d[pivot]!) hT 0 hv hbl3 (gE (by simp;omega)) Z Z Z Z Z hl1 Z (fun _=>rfl) Z (fun Bl3 hBl3=>?_)
 refine WT.vidx hT hBl3 Z Z Z Z Z Z Z Z Z zo (fun bl4 hbl4=>?_);refine WT.vst (y:=d[a]!) hT 0 hBl3 hbl4 (gE (by simp;omega)) Z Z Z Z Z hl2 Z (fun _=>rfl) Z (fun Bl4 hBl4=>?_);rw[←swp_list] at hBl4;obtain⟨d1,hd1⟩:∃d1,Go.Sort.swp d a pivot=d1:=⟨_,rfl⟩;rw[hd1] at hBl4;have hpart:Go.Sort.partitionEqual lt d a b pivot=Go.Sort.partEqLoop lt a (a+1) (b-1) d1:=by rw[Go.Sort.partitionEqual,hd1]
 refine zC4 ?_;refine AW.jnT (S:=Nat×VS Lr) (fun s=>[(11,.int .i64 (s.1:Nat)),(12,.int .i64 (s.2.i:Nat))]) (fun s=>s.2.B::own) (fun s G=>Vec tLr G a0 m c s.2.B s.2.d.toList∧(s.1,s.2.d)=Go.Sort.partEqLoop lt a (a+1) (b-1) d1) ?_ (fun s F3 hF3 hP=>?_)
 ·refine AW.block ?_;refine AW.loopR (S:=Nat×VS Lr) (fun s=>[(11,.int .i64 (s.1:Nat)),(12,.int .i64 (s.2.i:Nat))]) (fun s=>s.2.B::own) (fun s G=>Vec tLr G a0 m c s.2.B s.2.d.toList∧a<s.1∧s.1≤s.2.i+1∧s.2.i<b∧Go.Sort.partEqLoop lt a s.1 s.2.i s.2.d=Go.Sort.partEqLoop lt a (a+1) (b-1) d1) (fun s=>s.2.i+1-s.1) (a+1,⟨b-1,d1,Bl4⟩)
   sM oR ⟨hBl4,by dsimp only;omega,by dsimp only;omega,by dsimp only;omega,rfl⟩ ?_
  intro u F4 hF4 hP4;obtain⟨hv4,ha4,hij4,hb4,heq4⟩:=hP4;have hsz4:m=u.2.d.size:=hv4.len;obtain⟨i2,hi2⟩:∃i2,Go.Sort.scanUp (fun x=>!lt u.2.d[a]! x) u.2.d u.2.i u.1=i2:=⟨_,rfl⟩;obtain⟨j2,hj2⟩:∃j2,Go.Sort.scanDown (fun x=>lt u.2.d[a]! x) u.2.d i2 u.2.i=j2:=⟨_,rfl⟩;obtain⟨w1,w2,w3,w4⟩:=Go.Sort.scanUp_spec (fun x=>!lt u.2.d[a]! x) u.2.d u.2.i _ u.1 rfl;obtain⟨x1,x2,x3,x4⟩:=Go.Sort.scanDown_spec (fun x=>lt u.2.d[a]! x) u.2.d i2 u.2.i;rw[hi2] at w1 w2 w4;rw[hj2] at x1 x2 x4;have w2:=w2 hij4;have x2:=x2 zo;have hloop:=Go.Sort.partEqLoop_eq lt a u.1 u.2.i u.2.d;rw[hi2,hj2,heq4] at hloop
  refine AW.block ?_;refine AW.seq ?_;refine AW.jnT (S:=Unit) (fun _=>[(11,.int .i64 (Go.Sort.scanUp (fun x=>!lt u.2.d[a]! x) u.2.d u.2.i u.1:Nat))]) (fun _=>(u.2.B::own)) (fun _ _=>True) ?_ (fun _ F5 hF5 _=>?_)
  ·refine AW.block ?_;refine AW.loopR (S:=Nat) (fun i=>[(11,.int .i64 (i:Nat))]) (fun _=>(u.2.B::own)) (fun i _=>u.1≤i∧i≤u.2.i+1∧Go.Sort.scanUp (fun x=>!lt u.2.d[a]! x) u.2.d u.2.i i=Go.Sort.scanUp (fun x=>!lt u.2.d[a]! x) u.2.d u.2.i u.1) (fun i=>u.2.i+1-i) u.1 sM oR ⟨Nat.le_refl _,by omega,rfl⟩ ?_;intro i G hG hP;obtain⟨hi1,hi2,hi3⟩:=hP;have hvG:=hv4.mono hG;refine zC4 ?_;refine WT.split 34 Z (fun h=>?_) (fun h=>?_)
   ·have h:i≤u.2.i:=by simp at h;omega
    refine zC4 ?_;refine WT.vidx hT hvG Z Z Z Z Z Z Z Z Z zo (fun bl1 hbl1=>?_);refine WT.vldS hT 0 hvG hbl1 (arr_at zo) Z Z Z Z Z Z Z Z Z (fun l1 hl1=>?_);refine zC4 ?_;refine WT.vidx hT hvG Z Z Z Z Z Z Z Z Z zo (fun bl2 hbl2=>?_);refine WT.vldS hT 0 hvG hbl2 (arr_at zo) Z Z Z Z Z Z Z Z Z (fun l2 hl2=>?_);refine WT.callC hg hgb Z Z Z Z Z Z Z (hcmp G (hF4.trans hG) l1 l2 _ _ hl1 hl2) (fun v hvz=>?_);obtain⟨z,rfl,hz⟩:=hvz;refine zC4 ?_;refine AW.cond Z (fun hc=>?_) (fun hc=>?_)
    ·have hlt:=(Bool.eq_false_iff.2 (fun hh=>absurd (hz.2 hh) (by simpa using hc)):lt u.2.d[a]! u.2.d[i]! = false);refine zC4 ?_;refine AW.block ?_;refine zC4 ?_;refine⟨i+1,by omega,sM,OwnLe.refl _,by omega,by omega,?_⟩;rw[←hi3]
     conv=>rhs;rw[Go.Sort.scanUp]
     rw[if_pos (by simp[h,hlt])]
    ·have hlt:=hz.1 (by simpa using hc);refine AW.exit ?_;refine⟨(),SubK.of_map (by rw[←hi3,Go.Sort.scanUp,if_neg (by simp[hlt])];rfl),OwnLe.refl _,trivial⟩
   ·have h:¬i≤u.2.i:=by simp at h;omega
    refine zC4 ?_;refine AW.cond Z (fun h=>(by cases h)) (fun _=>?_);refine AW.exit ?_;refine⟨(),SubK.of_map (by rw[←hi3,Go.Sort.scanUp,if_neg (by simp[h])];rfl),OwnLe.refl _,trivial⟩
  rw[hi2];have hv5:=hv4.mono hF5;have hF5':=hF4.trans hF5;refine AW.seq ?_;refine AW.jnT (S:=Unit) (fun _=>[(12,.int .i64 (Go.Sort.scanDown (fun x=>lt u.2.d[a]! x) u.2.d i2 u.2.i:Nat))]) (fun _=>(u.2.B::own)) (fun _ _=>True) ?_ (fun _ F6 hF6 _=>?_)
  ·refine AW.block ?_;refine AW.loopR (S:=Nat) (fun j=>[(12,.int .i64 (j:Nat))]) (fun _=>(u.2.B::own)) (fun j _=>j≤u.2.i∧i2≤j+1∧Go.Sort.scanDown (fun x=>lt u.2.d[a]! x) u.2.d i2 j=Go.Sort.scanDown (fun x=>lt u.2.d[a]! x) u.2.d i2 u.2.i) (fun j=>j) u.2.i sM oR ⟨Nat.le_refl _,by omega,rfl⟩ ?_;intro j G hG hP;obtain⟨hj1,hj2,hj3⟩:=hP;have hvG:=hv5.mono hG;have one:∀q,i2≤j→(fun x=>lt u.2.d[a]! x) u.2.d[j]! = q→Go.Sort.scanDown (fun x=>lt u.2.d[a]! x) u.2.d i2 j=if q=true then Go.Sort.scanDown (fun x=>lt u.2.d[a]! x) u.2.d i2 (j-1) else j:=by
    intro q h1 h2;cases j with
    | zero=>omega
    | succ k=>
     rw[Go.Sort.scanDown,Nat.add_sub_cancel];subst h2;simp[h1]
   refine zC4 ?_;refine WT.split 53 Z (fun h=>?_) (fun h=>?_)
   ·have h:i2≤j:=by simp at h;omega
    refine zC4 ?_;refine WT.vidx hT hvG Z Z Z Z Z Z Z Z Z zo (fun bl1 hbl1=>?_);refine WT.vldS hT 0 hvG hbl1 (arr_at zo) Z Z Z Z Z Z Z Z Z (fun l1 hl1=>?_);refine zC4 ?_;refine WT.vidx hT hvG Z Z Z Z Z Z Z Z Z zo (fun bl2 hbl2=>?_);refine WT.vldS hT 0 hvG hbl2 (arr_at zo) Z Z Z Z Z Z Z Z Z (fun l2 hl2=>?_);refine WT.callC hg hgb Z Z Z Z Z Z Z (hcmp G (hF5'.trans hG) l1 l2 _ _ hl1 hl2) (fun v hvz=>?_);obtain⟨z,rfl,hz⟩:=hvz;refine zC4 ?_;refine AW.cond Z (fun hc=>?_) (fun hc=>?_)
    ·have hlt:=hz.1 (by simpa using hc);refine zC4 ?_;refine AW.block ?_;refine zC4 ?_;refine⟨j-1,by omega,sM,OwnLe.refl _,by omega,by omega,?_⟩;rw[←hj3,one true h (by simp[hlt]),if_pos rfl]
    ·have hlt:=(Bool.eq_false_iff.2 (fun hh=>absurd (hz.2 hh) (by simpa using hc)):lt u.2.d[a]! u.2.d[j]! = false);refine AW.exit ?_;refine⟨(),SubK.of_map (by rw[←hj3,one false h (by simp[hlt]),if_neg (by decide)];rfl),OwnLe.refl _,trivial⟩
   ·have h:¬i2≤j:=by simp at h;omega
    refine zC4 ?_;refine AW.cond Z (fun h=>(by cases h)) (fun _=>?_);refine AW.exit ?_;have e:Go.Sort.scanDown (fun x=>lt u.2.d[a]! x) u.2.d i2 j=j:=by
     cases j with
     | zero=>rfl
     | succ k=>rw[Go.Sort.scanDown,if_neg (by simp;omega)]
    refine⟨(),SubK.of_map (by rw[←hj3,e];rfl),OwnLe.refl _,trivial⟩
  rw[hj2];have hv6:=hv5.mono hF6;refine zC4 ?_;refine AW.cond Z (fun h=>?_) (fun h=>?_)
  ·have h:j2<i2:=by simp at h;omega
   refine AW.exit ?_;refine⟨(i2,⟨j2,u.2.d,u.2.B⟩),sM,OwnLe.refl _,hv6,?_⟩;rw[hloop,if_pos h]
  ·have h:¬j2<i2:=by simp at h;omega
   have hlt2:i2<j2:=by
    rcases Nat.lt_or_ge i2 j2 with h1 | h1
    ·exact h1
    ·obtain rfl:i2=j2:=by omega
     have e1:=w4 zo;have e2:=x4 (Nat.le_refl _) zo;rw[e2] at e1;cases e1
   exact shE8
 ·obtain⟨hv3,heq3⟩:=hP;refine zC4 ?_;refine AW.ret ⟨_,[_],⟨_,_,rfl,rfl,rfl⟩,zsb,_,rfl,?_,?_⟩
  ·rw[hpart,←heq3];rfl
  ·rw[hpart,←heq3];exact hv3
theorem lrOrder2_spec(F:Frz){lt:Lr→Lr→Bool}{g:Nat}{first capt:List Value}(hc:CmpOk tLr lt F g first capt){a0:Option Addr}{m c:Nat}{d:Array Lr}(hv:Arr tLr F a0 m c d.toList)(a b:Nat)(ha:a<m)(hb:b<m)(hm:m≤1000000){ip sw:Nat}(hsw:sw≤1000) :
  Abs.Spec CC 282 [.slice a0 m c,.int .i64 a,.int .i64 b,.pointer (some ⟨ip,0,none⟩),.func (.func g) ⟨first⟩ ⟨capt⟩] F [[(ip,.cells false [.int .i64 sw])]] fun F' v o=>∃B',o=[B']∧v=.tuple ⟨[.int .i64 ((Go.Sort.order2 lt d a b sw).1:Nat),.int .i64 ((Go.Sort.order2 lt d a b sw).2.1:Nat)]⟩∧B'=[(ip,.cells false [.int .i64 ((Go.Sort.order2 lt d a b sw).2.2:Nat)])]:=by
 obtain⟨⟨fn,hg,hgb⟩,hcmp⟩:=hc;have hsz:m=d.size:=hv.len;refine Abs.Spec.fn (n:=32) Tryz.func282 rfl rfl fun own=>?_;refine zC4 ?_;refine WT.idxL hT hv Z Z Z Z Z Z Z Z Z (by simp;omega) (fun x1 hx1 b1 off1 ro1 cs1 l1 hb1 hp1 hl1=>?_);obtain rfl:x1=d[b]!:=by rw[arr_at zo] at hx1;exact(Option.some.inj hx1).symm
 refine WT.loadS hT hb1 hp1 Z Z Z Z Z Z Z Z ?_;refine zC4 ?_;refine WT.idxL hT hv Z Z Z Z Z Z Z Z Z (by simp;omega) (fun x2 hx2 b2 off2 ro2 cs2 l2 hb2 hp2 hl2=>?_);obtain rfl:x2=d[a]!:=by rw[arr_at zo] at hx2;exact(Option.some.inj hx2).symm
 refine WT.loadS hT hb2 hp2 Z Z Z Z Z Z Z Z ?_;refine WT.callC hg hgb Z Z Z Z Z Z Z (hcmp F (Frz.le.refl F) l1 l2 _ _ hl1 hl2) (fun v hvz=>?_);obtain⟨z,rfl,hz⟩:=hvz;refine zC4 ?_;refine AW.cond Z (fun hc=>?_) (fun hc=>?_)
 ·have hlt:=hz.1 (by simpa using hc);have e:Go.Sort.order2 lt d a b sw=(b,a,sw+1):=by rw[Go.Sort.order2,if_pos hlt]
  refine zC4 ?_;exact AW.ret ⟨_,[_],⟨_,_,rfl,⟨_,_,rfl,rfl,rfl⟩,rfl⟩,zsb,_,rfl,(by rw[e];first | done | rfl),(by rw[e];first | done | rfl)⟩
 ·have hlt:lt d[b]! d[a]! = false:=Bool.eq_false_iff.2 (fun hh=>absurd (hz.2 hh) (by simpa using hc));have e:Go.Sort.order2 lt d a b sw=(a,b,sw):=by rw[Go.Sort.order2,if_neg (by rw[hlt];decide)]
  refine zC4 ?_;exact AW.ret ⟨_,[_],⟨_,_,rfl,⟨_,_,rfl,rfl,rfl⟩,rfl⟩,zsb,_,rfl,(by rw[e];first | done | rfl),(by rw[e];first | done | rfl)⟩
theorem lrMedian_spec(F:Frz){lt:Lr→Lr→Bool}{g:Nat}{first capt:List Value}(hc:CmpOk tLr lt F g first capt){a0:Option Addr}{m c0:Nat}{d:Array Lr}(hv:Arr tLr F a0 m c0 d.toList)(a b c:Nat)(ha:a<m)(hb:b<m)(hcm:c<m)(hm:m≤1000000){ip sw:Nat}(hsw:sw≤900) :
  Abs.Spec CC 275 [.slice a0 m c0,.int .i64 a,.int .i64 b,.int .i64 c,.pointer (some ⟨ip,0,none⟩),.func (.func g) ⟨first⟩ ⟨capt⟩] F [[(ip,.cells false [.int .i64 sw])]] fun F' v o=>∃B',o=[B']∧v=.int .i64 ((Go.Sort.median lt d a b c sw).1:Nat)∧B'=[(ip,.cells false [.int .i64 ((Go.Sort.median lt d a b c sw).2:Nat)])]:=by
 obtain⟨r1,hr1⟩:∃r,Go.Sort.order2 lt d a b sw=r:=⟨_,rfl⟩;obtain⟨r2,hr2⟩:∃r,Go.Sort.order2 lt d r1.2.1 c r1.2.2=r:=⟨_,rfl⟩;obtain⟨r3,hr3⟩:∃r,Go.Sort.order2 lt d r1.1 r2.1 r2.2.2=r:=⟨_,rfl⟩;have hmed:Go.Sort.median lt d a b c sw=(r3.2.1,r3.2.2):=by simp only[Go.Sort.median,hr1,hr2,hr3]
 have m1:=Go.Sort.order2_mem lt d a b sw;have m2:=Go.Sort.order2_mem lt d r1.2.1 c r1.2.2;have n1:=Go.Sort.order2_count lt d a b sw;have n2:=Go.Sort.order2_count lt d r1.2.1 c r1.2.2;rw[hr1] at m1 n1;rw[hr2] at m2 n2;have b1:r1.1<m∧r1.2.1<m:=by omega
 have b2:r2.1<m∧r2.2.1<m:=by omega
 refine Abs.Spec.fn (n:=41) Tryz.func275 rfl rfl fun own=>?_;refine zC4 ?_;refine WT.call1F 0 Tryz.func282 Z Z Z Z Z Z Z (fun _=>rfl) (lrOrder2_spec _ hc hv a b ha hb hm zo) (fun F1 v B1 hF1 hv1=>?_);obtain⟨rfl,rfl⟩:=hv1;rw[hr1];refine zC4 ?_;refine WT.call1F 0 Tryz.func282 Z Z Z Z Z Z Z (fun _=>rfl) (lrOrder2_spec _ (hc.mono hF1) (hv.mono hF1) r1.2.1 c b1.2 hcm hm (sw:=r1.2.2) zo) (fun F2 v B2 hF2 hv2=>?_);obtain⟨rfl,rfl⟩:=hv2;rw[hr2];refine zC4 ?_
 refine WT.call1F 0 Tryz.func282 Z Z Z Z Z Z Z (fun _=>rfl) (lrOrder2_spec _ ((hc.mono hF1).mono hF2) ((hv.mono hF1).mono hF2) r1.1 r2.1 b1.1 b2.1 hm (sw:=r2.2.2) zo) (fun F3 v B3 hF3 hv3=>?_);obtain⟨rfl,rfl⟩:=hv3;rw[hr3];refine zC4 ?_;exact AW.ret ⟨_,[_],⟨_,_,rfl,rfl,rfl⟩,zsb,_,rfl,(by rw[hmed];first | done | rfl),(by rw[hmed])⟩
theorem lrMedAdj_spec(F:Frz){lt:Lr→Lr→Bool}{g:Nat}{first capt:List Value}(hc:CmpOk tLr lt F g first capt){a0:Option Addr}{m c0:Nat}{d:Array Lr}(hv:Arr tLr F a0 m c0 d.toList)(a:Nat)(ha:1≤a)(hb:a+1<m)(hm:m≤1000000){ip sw:Nat}(hsw:sw≤900) :
  Abs.Spec CC 274 [.slice a0 m c0,.int .i64 a,.pointer (some ⟨ip,0,none⟩),.func (.func g) ⟨first⟩ ⟨capt⟩] F [[(ip,.cells false [.int .i64 sw])]] fun F' v o=>∃B',o=[B']∧v=.int .i64 ((Go.Sort.medianAdjacent lt d a sw).1:Nat)∧B'=[(ip,.cells false [.int .i64 ((Go.Sort.medianAdjacent lt d a sw).2:Nat)])]:=by
 refine Abs.Spec.fn (n:=18) Tryz.func274 rfl rfl fun own=>?_;refine zC4 ?_;refine WT.call1F 0 Tryz.func275 Z Z Z Z Z Z Z (fun _=>rfl) (lrMedian_spec _ hc hv (a-1) a (a+1) zo zo zo hm hsw) (fun F1 v B1 hF1 hv1=>?_);obtain⟨rfl,rfl⟩:=hv1;refine zC4 ?_;exact AW.ret ⟨_,[_],⟨_,_,rfl,rfl,rfl⟩,zsb,_,rfl,rfl,rfl⟩
theorem lrPivot_spec(F:Frz){lt:Lr→Lr→Bool}{g:Nat}{first capt:List Value}(hc:CmpOk tLr lt F g first capt){a0:Option Addr}{m c0:Nat}{d:Array Lr}(hv:Arr tLr F a0 m c0 d.toList)(a b:Nat)(hab:a+13≤b)(hb:b≤m)(hm:m≤1000000) :
  Abs.Spec CC 249 [.slice a0 m c0,.int .i64 a,.int .i64 b,.func (.func g) ⟨first⟩ ⟨capt⟩] F [] fun F' v o=>o=[]∧v=.tuple ⟨[.int .i64 ((Go.Sort.choosePivot lt d a b).1:Nat),.int .i64 (Go.Sort.hintCode (Go.Sort.choosePivot lt d a b).2)]⟩:=by
 have hd4:(b-a) / 4*4≤b-a:=Nat.div_mul_le_self _ _;have hd3:3≤(b-a) / 4:=by omega
 obtain⟨e,he⟩:∃e,(b-a) / 4=e:=⟨_,rfl⟩;rw[he] at hd4 hd3;refine Abs.Spec.fn (n:=63) Tryz.func249 rfl rfl fun own=>?_;refine zC4 ?_;refine WT.allocT hT Z Z Z Z Z Z (fun i11 hi11=>?_);refine zC4 ?_;refine WT.quoL 4 Z Z Z Z Z Z (by decide) zo ?_;refine WT.mulL 1 Z Z Z Z Z Z zo ?_;rw[he];refine zC4 ?_;refine WT.quoL 4 Z Z Z Z Z Z (by decide) zo ?_;refine WT.mulL 2 Z Z Z Z Z Z zo ?_;rw[he];refine zC4 ?_;refine WT.quoL 4 Z Z Z Z Z Z (by decide) zo ?_;refine WT.mulL 3 Z Z Z Z Z Z zo ?_;rw[he];refine zC4 ?_;refine AW.cond Z (fun _=>?_) (fun h=>(by simp at h;omega))
 refine AW.jn (S:=Nat×Nat×Nat×Nat) (fun s=>[(12,.int .i64 (s.1:Nat)),(13,.int .i64 (s.2.1:Nat)),(14,.int .i64 (s.2.2.1:Nat))]) (fun s=>[(i11,.cells false [.int .i64 (s.2.2.2:Nat)])]::own) (fun s _=>s.1<m∧s.2.1<m∧s.2.2.1<m∧s.2.2.2≤9∧Go.Sort.rawPivot lt d a b=Go.Sort.median lt d s.1 s.2.1 s.2.2.1 s.2.2.2) ?_ (fun s F5 hF5 hP=>?_)
 ·refine zC4 ?_;refine AW.cond Z (fun h=>?_) (fun h=>?_)
  ·have h:50≤b-a:=by simp at h;omega
   have h12:12≤e:=by omega
   obtain⟨r1,hr1⟩:∃r,Go.Sort.medianAdjacent lt d (a+e*1) 0=r:=⟨_,rfl⟩;obtain⟨r2,hr2⟩:∃r,Go.Sort.medianAdjacent lt d (a+e*2) r1.2=r:=⟨_,rfl⟩;obtain⟨r3,hr3⟩:∃r,Go.Sort.medianAdjacent lt d (a+e*3) r2.2=r:=⟨_,rfl⟩;have m1:=Go.Sort.medianAdjacent_mem lt d (a+e*1) 0;have m2:=Go.Sort.medianAdjacent_mem lt d (a+e*2) r1.2;have m3:=Go.Sort.medianAdjacent_mem lt d (a+e*3) r2.2;have n1:=Go.Sort.medianAdjacent_count lt d (a+e*1) 0;have n2:=Go.Sort.medianAdjacent_count lt d (a+e*2) r1.2;have n3:=Go.Sort.medianAdjacent_count lt d (a+e*3) r2.2;rw[hr1] at m1 n1;rw[hr2] at m2 n2;rw[hr3] at m3 n3;refine zC4 ?_
   refine WT.call1F 0 Tryz.func274 Z Z Z Z Z Z Z (fun _=>rfl) (lrMedAdj_spec _ hc hv (a+e*1) zo zo hm (sw:=0) zo) (fun F1 v B1 hF1 hv1=>?_);obtain⟨rfl,rfl⟩:=hv1;rw[hr1];refine zC4 ?_;refine WT.call1F 0 Tryz.func274 Z Z Z Z Z Z Z (fun _=>rfl) (lrMedAdj_spec _ (hc.mono hF1) (hv.mono hF1) (a+e*2) zo zo hm (sw:=r1.2) zo) (fun F2 v B2 hF2 hv2=>?_);obtain⟨rfl,rfl⟩:=hv2;rw[hr2];refine zC4 ?_;refine WT.call1F 0 Tryz.func274 Z Z Z Z Z Z Z (fun _=>rfl) (lrMedAdj_spec _ ((hc.mono hF1).mono hF2) ((hv.mono hF1).mono hF2) (a+e*3) zo zo hm (sw:=r2.2) zo) (fun F3 v B3 hF3 hv3=>?_);obtain⟨rfl,rfl⟩:=hv3;rw[hr3]
   refine zC4 ?_;refine⟨(r1.1,r2.1,r3.1,r3.2),sM,OwnLe.refl _,by dsimp only;omega,by dsimp only;omega,by dsimp only;omega,by dsimp only;omega,?_⟩;rw[Go.Sort.rawPivot,if_pos zo,if_pos h,he,hr1,hr2,hr3]
  ·have h:¬50≤b-a:=by simp at h;omega
   refine AW.skip ?_;refine⟨(a+e*1,a+e*2,a+e*3,0),sM,OwnLe.refl _,by dsimp only;omega,by dsimp only;omega,by dsimp only;omega,by dsimp only;omega,?_⟩;rw[Go.Sort.rawPivot,if_pos zo,if_neg zo,he]
 ·obtain⟨q1,q2,q3,q4,q5⟩:=hP;obtain⟨r,hr⟩:∃r,Go.Sort.median lt d s.1 s.2.1 s.2.2.1 s.2.2.2=r:=⟨_,rfl⟩;have n1:=Go.Sort.median_count lt d s.1 s.2.1 s.2.2.1 s.2.2.2;rw[hr] at n1 q5;have hch:Go.Sort.choosePivot lt d a b=(r.1,Go.Sort.hintOf r.2):=by rw[Go.Sort.choosePivot_eq,q5]
  refine zC4 ?_;refine WT.call1F 0 Tryz.func275 Z Z Z Z Z Z Z (fun _=>rfl) (lrMedian_spec _ (hc.mono hF5) (hv.mono hF5) s.1 s.2.1 s.2.2.1 q1 q2 q3 hm (sw:=s.2.2.2) zo) (fun F6 v B6 hF6 hv6=>?_);obtain⟨rfl,rfl⟩:=hv6;rw[hr];refine zC4 ?_;refine AW.block ?_;refine zC4 ?_;refine AW.cond Z (fun h=>?_) (fun h=>?_)
  ·have h:r.2=0:=by simp at h;omega
   refine zC4 ?_;refine AW.ret ⟨_,[],⟨_,_,rfl,⟨_,_,rfl,rfl,rfl⟩,rfl⟩,zsb,rfl,?_⟩;rw[hch,h];rfl
  ·have h:r.2≠0:=by simp at h;omega
   refine zC4 ?_;refine AW.cond Z (fun h2=>?_) (fun h2=>?_)
   ·have h2:r.2=12:=by simp at h2;omega
    refine zC4 ?_;refine AW.ret ⟨_,[],⟨_,_,rfl,⟨_,_,rfl,rfl,rfl⟩,rfl⟩,zsb,rfl,?_⟩;rw[hch,h2];rfl
   ·have h2:r.2≠12:=by simp at h2;omega
    refine zC4 ?_;refine AW.ret ⟨_,[],⟨_,_,rfl,⟨_,_,rfl,rfl,rfl⟩,rfl⟩,zsb,rfl,?_⟩;rw[hch,show Go.Sort.hintOf r.2=.unknown by rw[Go.Sort.hintOf,if_neg h,if_neg h2]];rfl
theorem lrPIns_spec(F:Frz){lt:Lr→Lr→Bool}{g:Nat}{first capt:List Value}(hc:CmpOk tLr lt F g first capt){a0:Option Addr}{m c:Nat}{B:List (Nat×Blk)}{d:Array Lr}(hv:Vec tLr F a0 m c B d.toList)(a b:Nat)(hab:a<b)(hb:b≤m)(hm:m≤1000000) :
  Abs.Spec CC 251 [.slice a0 m c,.int .i64 a,.int .i64 b,.func (.func g) ⟨first⟩ ⟨capt⟩] F [B] fun F' v o=>∃B',o=[B']∧v=.bool (Go.Sort.partialInsertionSort lt d a b).2∧Vec tLr F' a0 m c B' (Go.Sort.partialInsertionSort lt d a b).1.toList:=by
 obtain⟨⟨fn,hg,hgb⟩,hcmp⟩:=hc;refine Abs.Spec.fn (n:=141) Tryz.func251 rfl rfl fun own=>?_;refine zC4 ?_;refine AW.block ?_;refine AW.loopR (S:=Nat×VS Lr) (fun s=>[(10,.int .i64 (s.1:Nat)),(9,.int .i64 (s.2.i:Nat))]) (fun s=>s.2.B::own) (fun s G=>Vec tLr G a0 m c s.2.B s.2.d.toList∧s.1≤5∧a+1≤s.2.i∧s.2.i≤b∧Go.Sort.partialIns lt a b (5-s.1) s.2.i s.2.d=Go.Sort.partialInsertionSort lt d a b) (fun s=>5-s.1) (0,⟨a+1,d,B⟩)
  sM oR ⟨hv,Nat.zero_le _,Nat.le_refl _,hab,rfl⟩ ?_
 intro u F1 hF1 hP;obtain⟨hv1,hk,hi1,hi2,heq⟩:=hP;refine zC4 ?_;refine AW.cond Z (fun h=>?_) (fun h=>?_)
 ·have h:u.1<5:=by simp at h;omega
  obtain⟨i2,hsc⟩:∃i2,Go.Sort.scanSorted lt u.2.d b u.2.i=i2:=⟨_,rfl⟩;rw[show 5-u.1=(5-(u.1+1))+1 by omega,Go.Sort.partialIns_succ,hsc] at heq;refine AW.skip ?_;refine AW.seq ?_;refine AW.block ?_;refine AW.jn (S:=Unit) (fun _=>[(9,.int .i64 (i2:Nat))]) (fun _=>u.2.B::own) (fun _ _=>u.2.i≤i2∧i2≤b) ?_ (fun _ F2 hF2 hi2'=>?_)
  ·refine AW.block ?_;refine AW.loopR (S:=Nat) (fun i=>[(9,.int .i64 (i:Nat))]) (fun _=>u.2.B::own) (fun i _=>u.2.i≤i∧i≤b∧Go.Sort.scanSorted lt u.2.d b i=i2) (fun i=>b-i) u.2.i sM oR ⟨Nat.le_refl _,hi2,hsc⟩ ?_;intro i G hG hP;obtain⟨j1,j2,j3⟩:=hP;have hvG:=hv1.mono hG;have hsz:m=u.2.d.size:=hv1.len;refine zC4 ?_;refine WT.split 22 Z (fun h=>?_) (fun h=>?_)
   ·have h:i<b:=by simp at h;omega
    refine zC4 ?_;refine WT.vidx hT hvG Z Z Z Z Z Z Z Z Z zo (fun bl1 hbl1=>?_);refine WT.vldS hT 0 hvG hbl1 (arr_at zo) Z Z Z Z Z Z Z Z Z (fun l1 hl1=>?_);refine zC4 ?_;refine WT.vidx hT hvG Z Z Z Z Z Z Z Z Z zo (fun bl2 hbl2=>?_);refine WT.vldS hT 0 hvG hbl2 (arr_at zo) Z Z Z Z Z Z Z Z Z (fun l2 hl2=>?_);refine WT.callC hg hgb Z Z Z Z Z Z Z (hcmp G (hF1.trans hG) l1 l2 _ _ hl1 hl2) (fun v hvz=>?_);obtain⟨z,rfl,hz⟩:=hvz;refine zC4 ?_;refine AW.cond Z (fun hc=>?_) (fun hc=>?_)
    ·have hlt:lt u.2.d[i]! u.2.d[i-1]! = false:=Bool.eq_false_iff.2 (fun hh=>absurd (hz.2 hh) (by simpa using hc));refine zC4 ?_;refine AW.block ?_;refine zC4 ?_;refine⟨i+1,by omega,sM,OwnLe.refl _,by omega,by omega,?_⟩;rw[←j3]
     conv=>rhs;rw[Go.Sort.scanSorted]
     rw[if_pos (by simp[h,hlt])]
    ·have hlt:=hz.1 (by simpa using hc);refine AW.exit ?_;have e:i=i2:=by rw[←j3,Go.Sort.scanSorted,if_neg (by simp[hlt])]
     exact⟨(),SubK.of_map (by rw[e];rfl),OwnLe.refl _,by omega,by omega⟩
   ·have h:¬i<b:=by simp at h;omega
    refine zC4 ?_;refine AW.cond Z (fun h=>(by cases h)) (fun _=>?_);refine AW.exit ?_;have e:i=i2:=by rw[←j3,Go.Sort.scanSorted,if_neg (by simp[h])]
    exact⟨(),SubK.of_map (by rw[e];rfl),OwnLe.refl _,by omega,by omega⟩
  ·obtain⟨j1,j2⟩:=hi2';have hv2:=hv1.mono hF2;have hsz:m=u.2.d.size:=hv1.len;have hF2':=hF1.trans hF2;refine zC4 ?_;refine AW.cond Z (fun h=>?_) (fun h=>?_)
   ·have h:i2=b:=by simp at h;omega
    refine zC4 ?_;refine AW.ret ⟨_,[_],⟨_,_,rfl,rfl,rfl⟩,zsb,_,rfl,?_,?_⟩
    ·rw[←heq,if_pos h];rfl
    ·rw[←heq,if_pos h];exact hv2
   ·have h:i2≠b:=by simp at h;omega
    rw[if_neg h] at heq;refine zC4 ?_;refine AW.cond Z (fun h5=>?_) (fun h5=>?_)
    ·have h5:b-a<50:=by simp at h5;omega
     refine zC4 ?_;refine AW.ret ⟨_,[_],⟨_,_,rfl,rfl,rfl⟩,zsb,_,rfl,?_,?_⟩
     ·rw[←heq,if_pos h5];rfl
     ·rw[←heq,if_pos h5];exact hv2
    ·have h5:¬b-a<50:=by simp at h5;omega
     rw[if_neg h5] at heq;refine zC4 ?_;refine AW.draw (ps:=[(4,15)]) Z Z ?_;refine zC4 ?_;refine WT.vidx hT hv2 Z Z Z Z Z Z Z Z Z zo (fun bl3 hbl3=>?_);refine WT.vldS hT 0 hv2 hbl3 (arr_at zo) Z Z Z Z Z Z Z Z Z (fun l3 hl3=>?_);refine zC4 ?_;refine WT.vidx hT hv2 Z Z Z Z Z Z Z Z Z zo (fun bl4 hbl4=>?_);refine WT.vldS hT 0 hv2 hbl4 (arr_at zo) Z Z Z Z Z Z Z Z Z (fun l4 hl4=>?_);refine WT.vidx hT hv2 Z Z Z Z Z Z Z Z Z zo (fun bl5 hbl5=>?_);refine WT.vst (y:=u.2.d[i2-1]!) hT 0 hv2 hbl5 (gE (by simp;omega)) Z Z Z Z Z hl3 Z (fun _=>rfl) Z (fun Bl5 hBl5=>?_)
     refine WT.vidx hT hBl5 Z Z Z Z Z Z Z Z Z zo (fun bl6 hbl6=>?_);refine WT.vst (y:=u.2.d[i2]!) hT 0 hBl5 hbl6 (gE (by simp;omega)) Z Z Z Z Z hl4 Z (fun _=>rfl) Z (fun Bl6 hBl6=>?_);rw[←swp_list] at hBl6;obtain⟨d1,hd1⟩:∃d1,Go.Sort.swp u.2.d i2 (i2-1)=d1:=⟨_,rfl⟩;rw[hd1] at heq hBl6;refine zC4 ?_;refine⟨zrC,?_⟩;refine AW.jn (S:=VS Lr) (fun _=>[]) (fun s=>s.B::own) (fun s G=>Vec tLr G a0 m c s.B s.d.toList∧s.d=Go.Sort.fixDown lt a i2 d1) ?_ (fun s F3 hF3 hP3=>?_)
     ·refine zC4 ?_;refine AW.cond Z (fun h2=>?_) (fun h2=>?_)
      ·have h2:2≤i2-a:=by simp at h2;omega
       rw[Go.Sort.fixDown,if_pos h2];refine zC4 ?_;refine AW.block ?_;refine AW.loopR (S:=VS Lr) (fun s=>[(11,.int .i64 (s.i:Nat))]) (fun s=>s.B::own) (fun s G=>Vec tLr G a0 m c s.B s.d.toList∧s.i<m∧Go.Sort.shiftDown lt s.i s.d=Go.Sort.shiftDown lt (i2-1) d1) (fun s=>s.i) ⟨i2-1,d1,Bl6⟩ sM oR ⟨hBl6,by dsimp only;omega,rfl⟩ ?_;intro w G hG hP4;obtain⟨hw,hwi,hwe⟩:=hP4;have hszw:m=w.d.size:=hw.len;refine zC4 ?_;refine AW.cond Z (fun h3=>?_) (fun h3=>?_)
       ·have h3:1≤w.i:=by simp at h3;omega
        have one:Go.Sort.shiftDown lt w.i w.d=if lt w.d[w.i]! w.d[w.i-1]! = true then Go.Sort.shiftDown lt (w.i-1) (Go.Sort.swp w.d w.i (w.i-1)) else w.d:=by
         cases hi:w.i with
         | zero=>omega
         | succ k=>
          rw[Go.Sort.shiftDown,Nat.add_sub_cancel];cases lt w.d[k+1]! w.d[k]!<;>simp
        refine zC4 ?_;refine AW.block ?_;refine zC4 ?_;refine WT.vidx hT hw Z Z Z Z Z Z Z Z Z zo (fun bl7 hbl7=>?_);refine WT.vldS hT 0 hw hbl7 (arr_at zo) Z Z Z Z Z Z Z Z Z (fun l7 hl7=>?_);refine zC4 ?_;refine WT.vidx hT hw Z Z Z Z Z Z Z Z Z zo (fun bl8 hbl8=>?_);refine WT.vldS hT 0 hw hbl8 (arr_at zo) Z Z Z Z Z Z Z Z Z (fun l8 hl8=>?_);refine WT.callC hg hgb Z Z Z Z Z Z Z (hcmp G (hF2'.trans hG) l7 l8 _ _ hl7 hl8) (fun v hvz=>?_);obtain⟨z,rfl,hz⟩:=hvz;refine zC4 ?_;refine AW.cond Z (fun hc=>?_) (fun hc=>?_)
        ·have hlt:lt w.d[w.i]! w.d[w.i-1]! = false:=Bool.eq_false_iff.2 (fun hh=>absurd (hz.2 hh) (by simpa using hc));refine AW.exit ?_;refine⟨⟨0,w.d,w.B⟩,sM,OwnLe.refl _,hw,?_⟩;rw[←hwe,one,if_neg (by rw[hlt];decide)]
        ·have hlt:=hz.1 (by simpa using hc);refine zC4 ?_;refine AW.draw (ps:=[(4,15)]) Z Z ?_;refine zC4 ?_;refine WT.vidx hT hw Z Z Z Z Z Z Z Z Z zo (fun bl9 hbl9=>?_);refine WT.vldS hT 0 hw hbl9 (arr_at zo) Z Z Z Z Z Z Z Z Z (fun l9 hl9=>?_);refine zC4 ?_;refine WT.vidx hT hw Z Z Z Z Z Z Z Z Z zo (fun bl10 hbl10=>?_);refine WT.vldS hT 0 hw hbl10 (arr_at zo) Z Z Z Z Z Z Z Z Z (fun l10 hl10=>?_);refine WT.vidx hT hw Z Z Z Z Z Z Z Z Z zo (fun bl11 hbl11=>?_);refine WT.vst (y:=w.d[w.i-1]!) hT 0 hw hbl11 (gE (by simp;omega)) Z Z Z Z Z hl9 Z (fun _=>rfl) Z (fun Bl11 hBl11=>?_)
         refine WT.vidx hT hBl11 Z Z Z Z Z Z Z Z Z zo (fun bl12 hbl12=>?_);refine WT.vst (y:=w.d[w.i]!) hT 0 hBl11 hbl12 (gE (by simp;omega)) Z Z Z Z Z hl10 Z (fun _=>rfl) Z (fun Bl12 hBl12=>?_);rw[←swp_list] at hBl12;refine zC4 ?_;refine⟨zrC,?_⟩;refine zC4 ?_;refine⟨⟨w.i-1,Go.Sort.swp w.d w.i (w.i-1),Bl12⟩,by dsimp only;omega,sM,OwnLe.refl _,hBl12,by dsimp only;omega,?_⟩;rw[←hwe,one,if_pos hlt]
       ·have h3:w.i=0:=by simp at h3;omega
        refine AW.exit ?_;refine⟨⟨0,w.d,w.B⟩,sM,OwnLe.refl _,hw,?_⟩;rw[←hwe,h3];rfl
      ·have h2:¬2≤i2-a:=by simp at h2;omega
       rw[Go.Sort.fixDown,if_neg h2];refine AW.skip ?_;exact⟨⟨0,d1,Bl6⟩,sM,OwnLe.refl _,hBl6,rfl⟩
     ·obtain⟨hs,hsd⟩:=hP3;have hszs:m=s.d.size:=hs.len;have hF3':=hF2'.trans hF3;rw[←hsd] at heq;refine zC4 ?_;refine AW.cond Z (fun h2=>?_) (fun h2=>?_)
      ·have h2:2≤b-i2:=by simp at h2;omega
       rw[Go.Sort.fixUp,if_pos h2] at heq;refine zC4 ?_;refine AW.block ?_;refine AW.loopR (S:=VS Lr) (fun s=>[(12,.int .i64 (s.i:Nat))]) (fun s=>s.B::own) (fun w G=>Vec tLr G a0 m c w.B w.d.toList∧i2+1≤w.i∧Go.Sort.shiftUp lt b w.i w.d=Go.Sort.shiftUp lt b (i2+1) s.d) (fun s=>b-s.i) ⟨i2+1,s.d,s.B⟩ sM oR ⟨hs,Nat.le_refl _,rfl⟩ ?_;intro w G hG hP4;obtain⟨hw,hwi,hwe⟩:=hP4;have hszw:m=w.d.size:=hw.len;refine zC4 ?_;refine AW.cond Z (fun h3=>?_) (fun h3=>?_)
       ·have h3:w.i<b:=by simp at h3;omega
        have one:Go.Sort.shiftUp lt b w.i w.d=if lt w.d[w.i]! w.d[w.i-1]! = true then Go.Sort.shiftUp lt b (w.i+1) (Go.Sort.swp w.d w.i (w.i-1)) else w.d:=by
         conv=>lhs;rw[Go.Sort.shiftUp]
         rw[if_pos h3];cases lt w.d[w.i]! w.d[w.i-1]!<;>simp
        refine zC4 ?_;refine AW.block ?_;refine zC4 ?_;refine WT.vidx hT hw Z Z Z Z Z Z Z Z Z zo (fun bl7 hbl7=>?_);refine WT.vldS hT 0 hw hbl7 (arr_at zo) Z Z Z Z Z Z Z Z Z (fun l7 hl7=>?_);refine zC4 ?_;refine WT.vidx hT hw Z Z Z Z Z Z Z Z Z zo (fun bl8 hbl8=>?_);refine WT.vldS hT 0 hw hbl8 (arr_at zo) Z Z Z Z Z Z Z Z Z (fun l8 hl8=>?_);refine WT.callC hg hgb Z Z Z Z Z Z Z (hcmp G (hF3'.trans hG) l7 l8 _ _ hl7 hl8) (fun v hvz=>?_);obtain⟨z,rfl,hz⟩:=hvz;refine zC4 ?_;refine AW.cond Z (fun hc=>?_) (fun hc=>?_)
        ·have hlt:lt w.d[w.i]! w.d[w.i-1]! = false:=Bool.eq_false_iff.2 (fun hh=>absurd (hz.2 hh) (by simpa using hc));refine AW.exit ?_;refine zC4 ?_;refine⟨(u.1+1,⟨i2,w.d,w.B⟩),by dsimp only;omega,sM,OwnLe.refl _,hw,by dsimp only;omega,by dsimp only;omega,j2,?_⟩;rw[←heq,←hwe,one,if_neg (by rw[hlt];decide)]
        ·have hlt:=hz.1 (by simpa using hc);refine zC4 ?_;refine AW.draw (ps:=[(4,15)]) Z Z ?_;refine zC4 ?_;refine WT.vidx hT hw Z Z Z Z Z Z Z Z Z zo (fun bl9 hbl9=>?_);refine WT.vldS hT 0 hw hbl9 (arr_at zo) Z Z Z Z Z Z Z Z Z (fun l9 hl9=>?_);refine zC4 ?_;refine WT.vidx hT hw Z Z Z Z Z Z Z Z Z zo (fun bl10 hbl10=>?_);refine WT.vldS hT 0 hw hbl10 (arr_at zo) Z Z Z Z Z Z Z Z Z (fun l10 hl10=>?_);refine WT.vidx hT hw Z Z Z Z Z Z Z Z Z zo (fun bl11 hbl11=>?_);refine WT.vst (y:=w.d[w.i-1]!) hT 0 hw hbl11 (gE (by simp;omega)) Z Z Z Z Z hl9 Z (fun _=>rfl) Z (fun Bl11 hBl11=>?_)
         refine WT.vidx hT hBl11 Z Z Z Z Z Z Z Z Z zo (fun bl12 hbl12=>?_);refine WT.vst (y:=w.d[w.i]!) hT 0 hBl11 hbl12 (gE (by simp;omega)) Z Z Z Z Z hl10 Z (fun _=>rfl) Z (fun Bl12 hBl12=>?_);rw[←swp_list] at hBl12;refine zC4 ?_;refine⟨zrC,?_⟩;refine zC4 ?_;refine⟨⟨w.i+1,Go.Sort.swp w.d w.i (w.i-1),Bl12⟩,by dsimp only;omega,sM,OwnLe.refl _,hBl12,by dsimp only;omega,?_⟩;rw[←hwe,one,if_pos hlt]
       ·have h3:¬w.i<b:=by simp at h3;omega
        refine AW.exit ?_;refine zC4 ?_;refine⟨(u.1+1,⟨i2,w.d,w.B⟩),by dsimp only;omega,sM,OwnLe.refl _,hw,by dsimp only;omega,by dsimp only;omega,j2,?_⟩;rw[←heq,←hwe,Go.Sort.shiftUp,if_neg h3]
      ·have h2:¬2≤b-i2:=by simp at h2;omega
       rw[Go.Sort.fixUp,if_neg h2] at heq;refine zC4 ?_;exact⟨(u.1+1,⟨i2,s.d,s.B⟩),by dsimp only;omega,sM,OwnLe.refl _,hs,by dsimp only;omega,by dsimp only;omega,j2,heq⟩
 ·have h:u.1=5:=by simp at h;omega
  refine AW.exit ?_;refine zC4 ?_;rw[h] at heq;refine AW.ret ⟨_,[_],⟨_,_,rfl,rfl,rfl⟩,zsb,_,rfl,?_,?_⟩
  ·rw[←heq];rfl
  ·rw[←heq];exact hv1
theorem lrBreak_spec(F:Frz){cv:Value}{a0:Option Addr}{m c:Nat}{B:List (Nat×Blk)}{d:Array Lr}(hv:Vec tLr F a0 m c B d.toList)(a b:Nat)(hab:a+13≤b)(hb:b≤m)(hm:m≤1000000) :
  Abs.Spec CC 248 [.slice a0 m c,.int .i64 a,.int .i64 b,cv] F [B] fun F' v o=>∃B',o=[B']∧Vec tLr F' a0 m c B' (Go.Sort.breakPatterns d a b).toList:=by
 obtain⟨l,hl⟩:∃l,b-a=l:=⟨_,rfl⟩;obtain⟨e,he⟩:∃e,l / 4=e:=⟨_,rfl⟩;obtain⟨p2,hp2⟩:∃p,2 ^ Go.Sort.bitsLen l=p:=⟨_,rfl⟩;have h1p:=Go.Sort.two_pow_bitsLen_le (n:=l) zo;have h2p:=Go.Sort.lt_two_pow_bitsLen l;rw[hp2] at h1p h2p;have hbr:Go.Sort.breakPatterns d a b=(bsN a l p2 (a+e*2-1) (UInt64.ofNat l,d) 3).2:=by
  unfold Go.Sort.breakPatterns;simp only[hl];rw[if_pos zo,he,Nat.one_shiftLeft,hp2];rfl
 refine Abs.Spec.fn (n:=67) Tryz.func248 rfl rfl fun own=>?_;refine zC4 ?_;rw[hl];refine AW.cond Z (fun _=>?_) (fun h=>(by simp at h;omega));refine zC4 ?_;refine WT.conv hT (k2:=.u64) Z Z Z Z Z Z Z Z (wrapU64 zo) ?_
 refine WT.allocT hT Z Z Z Z Z Z (fun i9 hi9=>?_);refine zC4 ?_;refine WT.callV Tryz.func237 Z Z Z Z Z Z (npow_spec _ l zo) (fun v hv'=>?_);rw[hp2] at hv';subst hv';refine zC4 ?_;refine WT.quoL 4 Z Z Z Z Z Z (by decide) zo ?_;rw[he];refine WT.mulL 2 Z Z Z Z Z Z zo ?_;refine zC4 ?_;refine AW.block ?_
 refine AW.loopR (S:=VS Lr) (fun s=>[(11,.int .i64 ((a+e*2-1+s.i:Nat):Int))]) (fun s=>[(i9,.cells false [.int .u64 ((bsN a l p2 (a+e*2-1) (UInt64.ofNat l,d) s.i).1.toNat:Nat)])]::s.B::own) (fun s G=>Vec tLr G a0 m c s.B s.d.toList∧s.i≤3∧s.d=(bsN a l p2 (a+e*2-1) (UInt64.ofNat l,d) s.i).2) (fun s=>3-s.i) ⟨0,d,B⟩
  sM (OwnLe.flat (List.Perm.of_eq ?_)) ⟨hv,Nat.zero_le _,rfl⟩ ?_
 ·rw[show (bsN a l p2 (a+e*2-1) (UInt64.ofNat l,d) 0).1.toNat=l from by
   show (UInt64.ofNat l).toNat=l;rw[UInt64.toNat_ofNat']
   exact Nat.mod_eq_of_lt (by have : 2 ^ 64 = 18446744073709551616 := rfl
                              omega)]
  rfl
 intro u F2 hF2 hP2;obtain⟨hv2,hi,heq⟩:=hP2;have hsz:m=u.d.size:=hv2.len;have hr64:=(bsN a l p2 (a+e*2-1) (UInt64.ofNat l,d) u.i).1.toNat_lt;rw[show (2:Nat) ^ 64=18446744073709551616 from rfl] at hr64;obtain⟨r,hr⟩:∃r,(bsN a l p2 (a+e*2-1) (UInt64.ofNat l,d) u.i).1.toNat=r:=⟨_,rfl⟩;have hnext:(bsN a l p2 (a+e*2-1) (UInt64.ofNat l,d) (u.i+1)).1.toNat=Go.Sort.xorNextN r:=by
  rw[←hr,←Go.Sort.xorNext_toNat];rfl
 rw[hr] at hr64;rw[hr];have hx64:=Go.Sort.xorNextN_lt r hr64;obtain⟨o0,ho0⟩:∃o0,Go.Sort.xorNextN r &&& (p2-1)=o0:=⟨_,rfl⟩;have ho1:o0≤p2-1:=by rw[←ho0];exact Nat.and_le_right
 have hswap:(bsN a l p2 (a+e*2-1) (UInt64.ofNat l,d) (u.i+1)).2=Go.Sort.swp u.d (a+e*2-1+u.i) (a+(if o0≥l then o0-l else o0)):=by
  show (Go.Sort.breakStep a l p2 (bsN a l p2 (a+e*2-1) (UInt64.ofNat l,d) u.i) (a+e*2-1+u.i)).2=_;unfold Go.Sort.breakStep;simp only[Go.Sort.xorNext_toNat,hr,ho0,←heq]
 have hel:e*4≤l:=by rw[←he];exact Nat.div_mul_le_self _ _
 have he3:3≤e:=by rw[←he];omega
 refine zC4 ?_;refine WT.quoL 4 Z Z Z Z Z Z (by decide) zo ?_;rw[he];refine WT.mulL 2 Z Z Z Z Z Z zo ?_;refine zC4 ?_;refine AW.cond Z (fun h=>?_) (fun h=>?_)
 ·have h:u.i<3:=by simp at h;omega
  refine zC4 ?_;refine AW.block ?_;refine zC4 ?_;refine WT.call1F 0 Tryz.func238 Z Z Z Z Z Z Z (fun _=>rfl) (xorn_spec _ i9 r hr64) (fun F3 v B3 hF3 hv3=>?_);obtain⟨rfl,rfl⟩:=hv3;have hv3:=hv2.mono hF3;refine zC4 ?_;refine WT.binV Z Z Z Z Z Z (by decide) (sub64 (x:=p2) (y:=1) zo zo) ?_;refine WT.binV Z Z Z Z Z Z (by decide) (and64 hx64 zo) ?_;rw[ho0];refine WT.conv hT (k2:=.i64) Z Z Z Z Z Z Z Z (wrap64 zo) ?_
  refine zC4 ?_;refine AW.jnT (S:=Unit) (fun _=>[(12,.int .i64 ((if o0≥l then o0-l else o0:Nat):Int))]) (fun _=>[(i9,.cells false [.int .u64 (Go.Sort.xorNextN r:Nat)])]::u.B::own) (fun _ _=>True) ?_ (fun _ F4 hF4 _=>?_)
  ·refine AW.cond Z (fun h=>?_) (fun h=>?_)
   ·have h:l≤o0:=by simp at h;omega
    refine zC4 ?_;refine⟨(),SubK.of_map (by rw[if_pos h];rfl),OwnLe.refl _,trivial⟩
   ·have h:¬l≤o0:=by simp at h;omega
    refine AW.skip ?_;refine⟨(),SubK.of_map (by rw[if_neg h];rfl),OwnLe.refl _,trivial⟩
  ·obtain⟨o1,ho2⟩:∃o1,(if o0≥l then o0-l else o0)=o1:=⟨_,rfl⟩;have ho3:o1<l:=by rw[←ho2];split<;>omega
   rw[ho2] at hswap ⊢;have hv4:=hv3.mono hF4;refine AW.draw (ps:=[(5,17)]) Z Z ?_;refine zC4 ?_;refine WT.vidx hT hv4 Z Z Z Z Z Z Z Z Z zo (fun bl3 hbl3=>?_);refine WT.vldS hT 1 hv4 hbl3 (arr_at zo) Z Z Z Z Z Z Z Z Z (fun l3 hl3=>?_);refine zC4 ?_;refine WT.vidx hT hv4 Z Z Z Z Z Z Z Z Z zo (fun bl4 hbl4=>?_);refine WT.vldS hT 1 hv4 hbl4 (arr_at zo) Z Z Z Z Z Z Z Z Z (fun l4 hl4=>?_);refine WT.vidx hT hv4 Z Z Z Z Z Z Z Z Z zo (fun bl5 hbl5=>?_);refine WT.vst (y:=u.d[a+o1]!) hT 1 hv4 hbl5 (gE (by simp;omega)) Z Z Z Z Z hl3 Z (fun _=>rfl) Z (fun Bl5 hBl5=>?_)
   refine WT.vidx hT hBl5 Z Z Z Z Z Z Z Z Z zo (fun bl6 hbl6=>?_);refine WT.vst (y:=u.d[a+e*2-1+u.i]!) hT 1 hBl5 hbl6 (gE (by simp;omega)) Z Z Z Z Z hl4 Z (fun _=>rfl) Z (fun Bl6 hBl6=>?_);rw[←swp_list] at hBl6;refine zC4 ?_;refine⟨zrC,?_⟩;refine zC4 ?_;refine⟨⟨u.i+1,_,Bl6⟩,by dsimp only;omega,sM,OwnLe.flat (List.Perm.of_eq (by rw[hnext])),hBl6,by dsimp only;omega,hswap.symm⟩
 ·have h:u.i=3:=by simp at h;omega
  refine AW.exit ?_;refine⟨_,[_],rfl,zsb,_,rfl,?_⟩;rw[hbr,←h,←heq];exact hv2
theorem lrPdqR_spec{lt:Lr→Lr→Bool}{g:Nat}{first capt:List Value}:∀(N:Nat) (F:Frz) (hc:CmpOk tLr lt F g first capt) {a0:Option Addr} {m c:Nat} {B:List (Nat×Blk)} {d:Array Lr} (hv:Vec tLr F a0 m c B d.toList) (a b limit:Nat) (hN:b-a<N) (hab:a≤b) (hb:b≤m) (hm:m≤1000000) (hlim:limit≤1000000),
  Abs.Spec CC 222 [.slice a0 m c,.int .i64 a,.int .i64 b,.int .i64 limit,.func (.func g) ⟨first⟩ ⟨capt⟩] F [B] fun F' v o=>∃B',o=[B']∧Vec tLr F' a0 m c B' (Go.Sort.pdq lt d a b limit true true).toList
 | 0,_,_,_,_,_,_,_,_,_,_,_,h,_,_,_,_=>absurd h (Nat.not_lt_zero _)
 | N+1,F,hc,a0,m,c,B,d,hv,a,b,limit,hN,hab,hb,hm,hlim=>by
  obtain⟨⟨fn,hg,hgb⟩,hcmp⟩:=id hc;refine Abs.Spec.fn (n:=148) Tryz.func222 rfl rfl fun own=>?_;refine zC4 ?_;refine AW.block ?_;refine AW.loopR (S:=PS Lr) (fun s=>[(1,.int .i64 (s.a:Nat)),(2,.int .i64 (s.b:Nat)),(3,.int .i64 (s.lim:Nat)),(10,.bool s.wb),(11,.bool s.wp)]) (fun s=>s.B::own)
   (fun s G=>Vec tLr G a0 m c s.B s.d.toList∧s.a≤s.b∧s.b≤m∧s.b-s.a≤b-a∧s.lim≤1000000∧Go.Sort.pdq lt s.d s.a s.b s.lim s.wb s.wp=Go.Sort.pdq lt d a b limit true true) (fun s=>s.b-s.a) ⟨a,b,limit,true,true,d,B⟩
   sM oR ⟨hv,hab,hb,Nat.le_refl _,hlim,rfl⟩ ?_
  intro s F1 hF1 hP;obtain⟨hv1,hab1,hb1,hle1,hlim1,heq⟩:=hP;have hc1:=hc.mono hF1;refine AW.block ?_;refine zC4 ?_;refine AW.cond Z (fun h=>?_) (fun h=>?_)
  ·have h:s.b-s.a≤12:=by simp at h;omega
   refine zC4 ?_;refine WT.call1F 0 Tryz.func246 Z Z Z Z Z Z Z (fun _=>rfl) (lrIns_spec _ hc1 hv1 s.a s.b zo hb1 hm) (fun F2 v B2 hF2 hv2=>?_);refine zC4 ?_;refine AW.ret ⟨_,[_],rfl,zsb,_,rfl,?_⟩;rw[←heq,Go.Sort.pdq_small h];exact hv2
  ·have h:¬s.b-s.a≤12:=by simp at h;omega
   refine zC4 ?_;refine AW.cond Z (fun h0=>?_) (fun h0=>?_)
   ·have h0:s.lim=0:=by simp at h0;omega
    refine zC4 ?_;refine WT.call1F 0 Tryz.func247 Z Z Z Z Z Z Z (fun _=>rfl) (lrHeap_spec _ hc1 hv1 s.a s.b zo hb1 hm) (fun F2 v B2 hF2 hv2=>?_);refine zC4 ?_;refine AW.ret ⟨_,[_],rfl,zsb,_,rfl,?_⟩;rw[←heq,Go.Sort.pdq_heap h h0];exact hv2
   ·have h0:¬s.lim=0:=by simp at h0;omega
    obtain⟨R,hR⟩:∃R,Go.Sort.rd lt s.d s.a s.b s.lim s.wb s.wp=R:=⟨_,rfl⟩;refine AW.skip ?_;refine AW.jn (S:=VS Lr) (fun t=>[(3,.int .i64 (t.i:Nat))]) (fun t=>t.B::own) (fun t G=>Vec tLr G a0 m c t.B t.d.toList∧t.i=R.lim∧t.d=R.d1) ?_ (fun t F2 hF2 hP2=>?_)
    ·refine zC4 ?_;cases hwb:s.wb with
     | true=>
      refine AW.cond Z (fun h=>(by cases h)) (fun _=>?_);refine AW.skip ?_;exact⟨⟨s.lim,s.d,s.B⟩,sM,OwnLe.refl _,hv1,by rw[←hR,hwb];rfl,by rw[←hR,hwb];rfl⟩
     | false=>
      refine AW.cond Z (fun _=>?_) (fun h=>(by cases h));refine zC4 ?_;refine WT.call1F 0 Tryz.func248 Z Z Z Z Z Z Z (fun _=>rfl) (lrBreak_spec _ hv1 s.a s.b zo hb1 hm) (fun F2 v B2 hF2 hv2=>?_);refine zC4 ?_;exact⟨⟨s.lim-1,_,B2⟩,sM,OwnLe.refl _,hv2,by rw[←hR,hwb];rfl,by rw[←hR,hwb];rfl⟩
    ·obtain⟨hv2,hlm,hd1⟩:=hP2;have hc2:=hc1.mono hF2;have hsz2:m=t.d.size:=hv2.len;have hcc:Go.Sort.choosePivot lt t.d s.a s.b=R.c:=by rw[hd1,←hR];rfl
     have hcr:=Go.Sort.choosePivot_holds lt t.d s.a s.b zo;rw[hcc] at hcr;have hlim2:R.lim≤s.lim:=by rw[←hR];exact Go.Sort.rd_lim_le
     refine zC4 ?_;refine WT.callLend 0 Tryz.func249 Z Z Z Z Z Z Z (fun G hG hBG=>lrPivot_spec G (hc2.mono hG) (hv2.arr hG hBG) s.a s.b zo hb1 hm) (fun v hv'=>?_);rw[hcc] at hv';subst hv'
     (iterate 5 (refine WT.easy hT Z Z Z Z Z ?_))
     refine WT.nil ?_;refine AW.jn (S:=Nat×Go.Sort.Hint×VS Lr) (fun u=>[(13,.int .i64 (u.1:Nat)),(14,.int .i64 (Go.Sort.hintCode u.2.1))]) (fun u=>u.2.2.B::own) (fun u G=>Vec tLr G a0 m c u.2.2.B u.2.2.d.toList∧u.1=R.pivot∧u.2.1=R.hint∧u.2.2.d=R.d2∧s.a≤u.1∧u.1<s.b) ?_ (fun u F3 hF3 hP3=>?_)
     ·refine zC4 ?_;refine AW.cond Z (fun hh=>?_) (fun hh=>?_)
      ·have hdec:R.c.2=.decreasing:=by
        cases e:R.c.2 with
        | decreasing=>rfl
        | increasing=>rw[e] at hh;cases hh
        | unknown=>rw[e] at hh;cases hh
       obtain⟨q1,q2,q3⟩:=Go.Sort.rd_dec (lt:=lt) (d:=s.d) (a:=s.a) (b:=s.b) (limit:=s.lim) (wb:=s.wb) (wp:=s.wp) (by rw[hR];exact hdec);rw[hR] at q1 q2 q3;refine zC4 ?_;refine WT.call1F 0 Tryz.func250 Z Z Z Z Z Z Z (fun _=>rfl) (lrRev_spec _ hv2 s.a s.b zo hb1 hm) (fun F3 v B3 hF3 hv3=>?_);refine zC4 ?_;refine⟨(s.b-1-(R.c.1-s.a),.increasing,⟨0,_,B3⟩),sM,OwnLe.refl _,hv3,q2.symm,q3.symm,(by rw[q1,hd1];rfl),by dsimp only;omega,by dsimp only;omega⟩
      ·have hdec:R.c.2≠.decreasing:=by intro e;rw[e] at hh;cases hh
       obtain⟨q1,q2,q3⟩:=Go.Sort.rd_not (lt:=lt) (d:=s.d) (a:=s.a) (b:=s.b) (limit:=s.lim) (wb:=s.wb) (wp:=s.wp) (by rw[hR];exact hdec);rw[hR] at q1 q2 q3;refine AW.skip ?_;exact⟨(R.c.1,R.c.2,⟨0,t.d,t.B⟩),sM,OwnLe.refl _,hv2,q2.symm,q3.symm,by rw[q1,hd1],hcr.1,hcr.2⟩
     ·obtain⟨hv3,hpv,hhint,hd2,hpa,hpb⟩:=hP3;have hc3:=hc2.mono hF3;have hno:(s.wb&&s.wp&&decide (R.hint=.increasing))=false→R.pi=(R.d2,false):=fun h=>by
       have:=Go.Sort.rd_pi_no (lt:=lt) (d:=s.d) (a:=s.a) (b:=s.b) (limit:=s.lim) (wb:=s.wb) (wp:=s.wp) (by rw[hR];exact h);rw[hR] at this;exact this
      have hyes:(s.wb&&s.wp&&decide (R.hint=.increasing))=true→R.pi=Go.Sort.partialInsertionSort lt R.d2 s.a s.b:=fun h=>by
       have:=Go.Sort.rd_pi_yes (lt:=lt) (d:=s.d) (a:=s.a) (b:=s.b) (limit:=s.lim) (wb:=s.wb) (wp:=s.wp) (by rw[hR];exact h);rw[hR] at this;exact this
      refine AW.jn (S:=VS Lr) (fun _=>[]) (fun w=>w.B::own) (fun w G=>Vec tLr G a0 m c w.B w.d.toList∧R.pi=(w.d,false)) ?_ (fun w F4 hF4 hP4=>?_)
      ·refine AW.split 10 Z (fun hwb=>?_) (fun hwb=>?_)
       ·refine AW.split 11 Z (fun hwp=>?_) (fun hwp=>?_)
        ·refine zC4 ?_;refine AW.cond Z (fun hh=>?_) (fun hh=>?_)
         ·have hinc:R.hint=.increasing:=by
           rw[←hhint];cases e:u.2.1 with
           | increasing=>rfl
           | decreasing=>rw[e] at hh;cases hh
           | unknown=>rw[e] at hh;cases hh
          have hpi:=hyes (by rw[hwb,hwp,hinc];rfl);refine zC4 ?_;refine WT.call1F 0 Tryz.func251 Z Z Z Z Z Z Z (fun _=>rfl) (lrPIns_spec _ hc3 hv3 s.a s.b zo hb1 hm) (fun F4 v B4 hF4 hv4=>?_);obtain⟨rfl,hv4⟩:=hv4;rw[hd2,←hpi] at hv4 ⊢;refine zC4 ?_;refine AW.cond Z (fun hp2=>?_) (fun hp2=>?_)
          ·have hp2:R.pi.2=true:=hp2;refine AW.ret ⟨_,[_],rfl,zsb,_,rfl,?_⟩;rw[←heq,Go.Sort.pdq_done h h0 (by rw[hR];exact hp2),hR];exact hv4
          ·have hp2:R.pi.2=false:=hp2;refine AW.skip ?_;exact⟨⟨0,R.pi.1,B4⟩,SubK.of_map (by rw[hwb,hwp];rfl),OwnLe.refl _,hv4,by rw[←hp2]⟩
         ·have hinc:R.hint≠.increasing:=by intro e;rw[←hhint] at e;rw[e] at hh;cases hh
          refine AW.skip ?_;exact⟨⟨0,u.2.2.d,u.2.2.B⟩,SubK.of_map (by rw[hwb,hwp];rfl),OwnLe.refl _,hv3,by rw[hno (by simp[hinc]),hd2]⟩
        ·refine zC4 ?_;refine AW.cond Z (fun hh=>(by cases hh)) (fun hh=>?_);refine AW.skip ?_;exact⟨⟨0,u.2.2.d,u.2.2.B⟩,SubK.of_map (by rw[hwb,hwp];rfl),OwnLe.refl _,hv3,by rw[hno (by simp[hwp]),hd2]⟩
       ·refine zC4 ?_;refine AW.cond Z (fun hh=>(by cases hh)) (fun hh=>?_);refine AW.skip ?_;exact⟨⟨0,u.2.2.d,u.2.2.B⟩,SubK.of_map (by rw[hwb];rfl),OwnLe.refl _,hv3,by rw[hno (by simp[hwb]),hd2]⟩
      ·obtain⟨hv4,hpi⟩:=hP4;have hc4:=hc3.mono hF4;have hsz4:m=w.d.size:=hv4.len;have hp2:(Go.Sort.rd lt s.d s.a s.b s.lim s.wb s.wp).pi.2=false:=by rw[hR,hpi]
       have hcm:=hc4.2;refine AW.jn (S:=Unit) (fun _=>[]) (fun _=>w.B::own) (fun _ _=>(decide (s.a > 0)&&!lt w.d[s.a-1]! w.d[u.1]!)=false) ?_ (fun _ F5 hF5 hx=>?_)
       ·refine zC4 ?_;refine WT.split 83 Z (fun ha0=>?_) (fun ha0=>?_)
        ·have ha0:0<s.a:=by simp at ha0;omega
         refine zC4 ?_;refine WT.vidx hT hv4 Z Z Z Z Z Z Z Z Z zo (fun bl1 hbl1=>?_);refine WT.vldS hT 0 hv4 hbl1 (arr_at zo) Z Z Z Z Z Z Z Z Z (fun l1 hl1=>?_);refine zC4 ?_;refine WT.vidx hT hv4 Z Z Z Z Z Z Z Z Z zo (fun bl2 hbl2=>?_);refine WT.vldS hT 0 hv4 hbl2 (arr_at zo) Z Z Z Z Z Z Z Z Z (fun l2 hl2=>?_);refine WT.callC hg hgb Z Z Z Z Z Z Z (hcm F4 (Frz.le.refl F4) l1 l2 _ _ hl1 hl2) (fun v hvz=>?_);obtain⟨z,rfl,hz⟩:=hvz;refine zC4 ?_;refine AW.cond Z (fun hq=>?_) (fun hq=>?_)
         ·have hlt:lt w.d[s.a-1]! w.d[u.1]! = false:=Bool.eq_false_iff.2 (fun hh=>absurd (hz.2 hh) (by simpa using hq));have hrange:=partEq_range lt w.d (a:=s.a) (b:=s.b) (p:=u.1) hpa hpb zo;have e:=Go.Sort.pdq_eq (lt:=lt) h h0 hp2 (by rw[hR,hpi,←hpv];simp[ha0,hlt]) (by rw[hR,hpi,←hpv];exact hrange);rw[hR,hpi,←hpv,←hlm] at e;obtain⟨pe,hpe⟩:∃pe,Go.Sort.partitionEqual lt w.d s.a s.b u.1=pe:=⟨_,rfl⟩;rw[hpe] at hrange;refine zC4 ?_;refine WT.call1F 0 Tryz.func252 Z Z Z Z Z Z Z (fun _=>rfl) (lrPartEq_spec _ hc4 hv4 s.a s.b u.1 hpa hpb hb1 hm) (fun F5 v B5 hF5 hv5=>?_);obtain⟨rfl,hv5⟩:=hv5
          rw[hpe] at hv5 ⊢;refine zC4 ?_;refine AW.exit ?_;refine⟨⟨pe.1,s.b,t.i,s.wb,s.wp,pe.2,B5⟩,by dsimp only;omega,sM,OwnLe.refl _,hv5,hrange.2,hb1,by dsimp only;omega,by dsimp only;omega,?_⟩;rw[←heq,e,hpe]
         ·have hlt:=hz.1 (by simpa using hq);refine AW.skip ?_;exact⟨(),sM,OwnLe.refl _,by rw[hlt];simp⟩
        ·have ha0:¬0<s.a:=by simp at ha0;omega
         refine zC4 ?_;refine AW.cond Z (fun hq=>(by cases hq)) (fun hq=>?_);refine AW.skip ?_;exact⟨(),sM,OwnLe.refl _,by simp[ha0]⟩
       ·have hv5:=hv4.mono hF5;have hc5:=hc4.mono hF5;have hrange:=part_range lt w.d (a:=s.a) (b:=s.b) (p:=u.1) hpa hpb zo;have hx':(decide (s.a > 0)&&!lt (Go.Sort.rd lt s.d s.a s.b s.lim s.wb s.wp).pi.1[s.a-1]! (Go.Sort.rd lt s.d s.a s.b s.lim s.wb s.wp).pi.1[(Go.Sort.rd lt s.d s.a s.b s.lim s.wb s.wp).pivot]!)=false:=by rw[hR,hpi,←hpv];exact hx
        have hr':s.a≤(Go.Sort.partition lt (Go.Sort.rd lt s.d s.a s.b s.lim s.wb s.wp).pi.1 s.a s.b (Go.Sort.rd lt s.d s.a s.b s.lim s.wb s.wp).pivot).1∧(Go.Sort.partition lt (Go.Sort.rd lt s.d s.a s.b s.lim s.wb s.wp).pi.1 s.a s.b (Go.Sort.rd lt s.d s.a s.b s.lim s.wb s.wp).pivot).1<s.b:=by rw[hR,hpi,←hpv];exact hrange
        have eL:=Go.Sort.pdq_left (lt:=lt) h h0 hp2 hx' hr';have eR:=Go.Sort.pdq_right (lt:=lt) h h0 hp2 hx' hr';rw[hR,hpi,←hpv,←hlm] at eL eR;obtain⟨pp,hpp⟩:∃pp,Go.Sort.partition lt w.d s.a s.b u.1=pp:=⟨_,rfl⟩;simp only[hpp] at hrange eL eR;refine zC4 ?_;refine WT.call1F 0 Tryz.func253 Z Z Z Z Z Z Z (fun _=>rfl) (lrPart_spec _ hc5 hv5 s.a s.b u.1 hpa hpb hb1 hm) (fun F6 v B6 hF6 hv6=>?_);obtain⟨rfl,hv6⟩:=hv6;rw[hpp] at hv6 ⊢;have hc6:=hc5.mono hF6;refine zC4 ?_;refine WT.quoL 8 Z Z Z Z Z Z (by decide) zo ?_;refine zC4 ?_;refine AW.cond Z (fun hl=>?_) (fun hl=>?_)
        ·have hl:pp.1-s.a<s.b-pp.1:=by simp at hl;omega
         refine zC4 ?_;refine WT.know (v':=.bool (decide (pp.1-s.a≥(s.b-s.a) / 8))) 10 Z (by congr 1;rw[decide_eq_decide];omega) ?_;refine WT.call1F 0 Tryz.func222 Z Z Z Z Z Z Z (fun _=>rfl) (lrPdqR_spec N _ hc6 hv6 s.a pp.1 t.i zo hrange.1 zo hm zo) (fun F7 v B7 hF7 hv7=>?_);refine zC4 ?_;refine⟨⟨pp.1+1,s.b,t.i,decide (pp.1-s.a≥(s.b-s.a) / 8),pp.2.1,_,B7⟩,by dsimp only;omega,sM,OwnLe.refl _,hv7,by dsimp only;omega,hb1,by dsimp only;omega,by dsimp only;omega,?_⟩;rw[←heq,eL hl]
        ·have hl:¬pp.1-s.a<s.b-pp.1:=by simp at hl;omega
         refine zC4 ?_;refine WT.know (v':=.bool (decide (s.b-pp.1≥(s.b-s.a) / 8))) 10 Z (by congr 1;rw[decide_eq_decide];omega) ?_;refine WT.call1F 0 Tryz.func222 Z Z Z Z Z Z Z (fun _=>rfl) (lrPdqR_spec N _ hc6 hv6 (pp.1+1) s.b t.i zo zo hb1 hm zo) (fun F7 v B7 hF7 hv7=>?_);refine zC4 ?_;refine⟨⟨s.a,pp.1,t.i,decide (s.b-pp.1≥(s.b-s.a) / 8),pp.2.1,_,B7⟩,by dsimp only;omega,sM,OwnLe.refl _,hv7,by dsimp only;omega,by dsimp only;omega,by dsimp only;omega,by dsimp only;omega,?_⟩;rw[←heq,eR hl]
theorem lrSort_spec(F:Frz){lt:Lr→Lr→Bool}{g:Nat}{first capt:List Value}(hc:CmpOk tLr lt F g first capt){a0:Option Addr}{m c:Nat}{B:List (Nat×Blk)}{xs:List Lr}(hv:Vec tLr F a0 m c B xs)(hm:m≤1000000) :
  Abs.Spec CC 195 [.slice a0 m c,.func (.func g) ⟨first⟩ ⟨capt⟩] F [B] fun F' v o=>∃B',o=[B']∧Vec tLr F' a0 m c B' (Go.Sort.sort lt xs.toArray).toList:=by
 have hl:=hv.len
 have hb : Go.Sort.bitsLen m ≤ 20 := (Go.Sort.bitsLen_le_iff _ _).2 (by have : 2 ^ 20 = 1048576 := rfl
                                                                        omega)
 refine Abs.Spec.fn (n:=14) Tryz.func195 rfl rfl fun own=>?_;refine zC4 ?_;refine WT.conv hT (k2:=.u64) Z Z Z Z Z Z Z Z (wrapU64 zo) ?_
 refine WT.callV Tryz.func174 Z Z Z Z Z Z (blen_spec _ m zo) (fun v hv'=>?_);subst hv';refine zC4 ?_;refine WT.call1F 0 Tryz.func222 Z Z Z Z Z Z Z (fun _=>rfl) (lrPdqR_spec (m+1) _ hc (d:=xs.toArray) hv 0 m (Go.Sort.bitsLen m) zo (Nat.zero_le _) (Nat.le_refl _) hm zo) (fun F7 v B7 hF7 hv7=>?_);refine zC4 ?_;refine⟨_,[_],rfl,zsb,_,rfl,?_⟩;rw[Go.Sort.sort,show xs.toArray.size=m from by simp[hl]];exact hv7
def Asc(l:List Lr):Prop:=l.Pairwise (fun x y=>ltLr y x=false)
def Strict(l:List Lr):Prop:=l.Pairwise (fun x y=>ltLr x y=true)
theorem asc_step{xs:List Lr}(h:Asc xs){j:Nat}{x p z:Lr}(hx:xs[j]?=some x)(hp:xs[j-1]?=some p)(hj:0<j)(hne:x≠p)(hz:z∈xs.take j):ltLr z x=true:=by
 unfold Asc at h;rw[List.pairwise_iff_getElem] at h;obtain⟨hjl,hx⟩:=gS hx;obtain⟨hpl,hp⟩:=gS hp;have h1:=h (j-1) j hpl hjl zo;rw[hx,hp] at h1;have h2:ltLr p x=true:=by
  cases e:ltLr p x with
  | true=>rfl
  | false=>exact absurd (ltLr_anti _ _ h1 e) hne
 obtain⟨i,hi,rfl⟩:=List.getElem_of_mem hz;rw[List.length_take] at hi;rw[List.getElem_take];have hil:i<xs.length:=by omega
 rcases Nat.lt_or_ge i (j-1) with h3 | h3
 ·have h4:=h i (j-1) hil hpl h3;rw[hp] at h4;rw[ltLr_not] at h4;rw[ltLr_iff] at h2 ⊢;omega
 ·obtain rfl:i=j-1:=by omega
  rw[hp];exact h2
theorem take_more{xs:List Lr}{j:Nat}{x:Lr}(hx:xs[j]?=some x):xs.take (j+1)=xs.take j++[x]:=by rw[List.take_add_one,hx];rfl
theorem mem_prev{xs:List Lr}{j:Nat}{p:Lr}(hp:xs[j-1]?=some p)(hj:0<j):p∈xs.take j:=by
 refine gM (i:=j-1) ?_;rw[List.getElem?_take,if_pos zo,hp]
structure LCt where
 i:Nat
 q:Nat
 ys:List Lr
 B:List (Nat×Blk)
theorem lrCompact_spec(F:Frz){a:Option Addr}{m c:Nat}{B:List (Nat×Blk)}{xs:List Lr}(hv:Vec tLr F a m c B xs)(hm:m≤1000000)(hs:Asc xs) :
  Abs.Spec CC 197 [.slice a m c] F [B] fun F' v o=>o=[]∧∃a' m' c' zs,v=.slice a' m' c'∧Arr tLr F' a' m' c' zs∧m'≤m∧Strict zs∧∀z,z∈zs↔z∈xs:=by
 have hl:=hv.len;refine Abs.Spec.fn (n:=61) Tryz.func197 rfl rfl fun own=>?_;refine zC4 ?_;refine AW.cond Z (fun h=>?_) (fun h=>?_)
 ·have h:m<2:=by simp at h;omega
  refine AW.freezeAll 0 Z Z (fun F1 hF1 hB1=>?_);refine zC4 ?_;refine AW.ret ⟨_,[],⟨_,_,rfl,rfl,rfl⟩,zsb,rfl,a,m,c,xs,rfl,hv.arr hF1 hB1,Nat.le_refl _,?_,fun _=>Iff.rfl⟩
  match xs,hl with
  | [],_=>exact List.Pairwise.nil
  | [x],_=>exact List.pairwise_singleton _ _
  | _::_::_,hl=>simp at hl;omega
 have h:2≤m:=by simp at h;omega
 obtain⟨x0,hx0⟩:∃x,xs[0]?=some x:=⟨_,gE zo⟩;obtain⟨ib,cs0,rfl,rfl,hcs0,_⟩:=hv.at_ hx0;obtain rfl:c=2:=by
  rcases hv.cap with h5 | h5
  ·have:=hv.zero h5;omega
  ·exact h5
 refine zC4 ?_;refine AW.block ?_;refine AW.loopR (S:=Nat) (fun i=>[(3,.int .i64 (i:Nat))]) (fun _=>_) (fun i G=>1≤i∧i≤m∧Strict (xs.take i)) (fun i=>m-i) 1
  sM oR ⟨Nat.le_refl _,by omega,?_⟩ ?_
 ·rw[take_more (j:=0) hx0];exact List.pairwise_singleton _ _
 intro i F1 hF1 hP;obtain⟨hi1,him,hst⟩:=hP;have hv1:=hv.mono hF1;refine zC4 ?_;refine AW.cond Z (fun h2=>?_) (fun h2=>?_)
 ·have h2:i<m:=by simpa using h2
  obtain⟨x,hx⟩:∃x,xs[i]?=some x:=⟨_,gE zo⟩;obtain⟨p,hp⟩:∃x,xs[i-1]?=some x:=⟨_,gE zo⟩;refine zC4 ?_;refine AW.block ?_;refine zC4 ?_;refine WT.vidx hT hv1 Z Z Z Z Z Z Z Z Z h2 (fun b5 hb5=>?_);refine WT.vldS hT 0 hv1 hb5 hx Z Z Z Z Z Z Z Z Z (fun l hl=>?_);obtain rfl:l=_:=hl;refine zC4 ?_;refine WT.vidx hT hv1 Z Z Z Z Z Z Z Z Z zo (fun b6 hb6=>?_);refine WT.vldS hT 0 hv1 hb6 hp Z Z Z Z Z Z Z Z Z (fun l hl=>?_);obtain rfl:l=_:=hl;refine zC4 ?_;refine AW.cond Z (fun h3=>?_) (fun h3=>?_)
  ·have e:x=p:=by
    simp at h3;cases x;cases p;simp only[Lr.mk.injEq] at *;omega
   subst e;refine zC4 ?_;refine WT.slice Z Z Z Z Z Z Z Z (fun h0=>sliceA_some (lo:=i) (hi:=m) hT Z Z Z Z Z zo (Nat.le_refl _) (.inr rfl) h0) ?_;refine zC4 ?_;refine AW.block ?_;refine AW.loopR (S:=LCt) (fun s=>[(3,.int .i64 (s.i:Nat)),(5,.int .i64 (s.q:Nat))]) (fun s=>s.B::own)
    (fun s G=>Vec tLr G (some ⟨ib,0,none⟩) m 2 s.B s.ys∧1≤s.q∧i+s.q≤m∧s.i+1≤i+s.q∧s.ys.drop (i+s.q-1)=xs.drop (i+s.q-1)∧Strict (s.ys.take s.i)∧∀z,z∈s.ys.take s.i↔z∈xs.take (i+s.q)) (fun s=>m-s.q) ⟨i,1,xs,_⟩
    sM oR ⟨hv1,Nat.le_refl _,by dsimp only;omega,Nat.le_refl _,rfl,hst,fun z=>?_⟩ ?_
   ·show z∈xs.take i↔z∈xs.take (i+1);rw[take_more hx,List.mem_append]
    exact⟨.inl,fun hz=>hz.elim id fun hz=>by
     have e:z=x:=by simpa using hz
     subst e;exact mem_prev hp zo⟩
   intro s F2 hF2 hP;obtain⟨hv2,hq1,hqm,hsi,hdr,hstr,hmem⟩:=hP;have hv2l:=hv2.len;refine zC4 ?_;refine AW.cond Z (fun h4=>?_) (fun h4=>?_)
   ·have h4:i+s.q<m:=by simp at h4;omega
    refine zC4 ?_;refine AW.block ?_;refine zC4 ?_;obtain⟨y,hy⟩:∃y,xs[i+s.q]?=some y:=⟨_,gE zo⟩;obtain⟨p2,hp2⟩:∃y,xs[i+s.q-1]?=some y:=⟨_,gE zo⟩;have up:∀d,s.ys[i+s.q-1+d]?=xs[i+s.q-1+d]?:=fun d=>by
     rw[←List.getElem?_drop,hdr,List.getElem?_drop]
    have hy2:s.ys[i+s.q]?=some y:=by
     have:=up 1;rw[show i+s.q-1+1=i+s.q by omega] at this;rw[this,hy]
    have hp3:s.ys[i+s.q-1]?=some p2:=by
     have:=up 0;rw[Nat.add_zero] at this;rw[this,hp2]
    have hdr2:s.ys.drop (i+s.q)=xs.drop (i+s.q):=by
     have:=congrArg (List.drop 1) hdr;rw[List.drop_drop,List.drop_drop,show i+s.q-1+1=i+s.q by omega] at this;exact this
    refine WT.idxA hT Z Z Z Z Z Z Z Z Z zo ?_;rw[show 0+i*2+s.q*2=(i+s.q)*2 by omega];refine WT.vldS hT 0 hv2 Z hy2 Z Z Z Z Z Z Z Z Z (fun l hl=>?_);obtain rfl:l=_:=hl;refine zC4 ?_;refine WT.idxA hT Z Z Z Z Z Z Z Z Z zo ?_;rw[show 0+i*2+(s.q-1)*2=(i+s.q-1)*2 by omega];refine WT.vldS hT 0 hv2 Z hp3 Z Z Z Z Z Z Z Z Z (fun l hl=>?_);obtain rfl:l=_:=hl;refine zC4 ?_;refine AW.cond Z (fun h5=>?_) (fun h5=>?_)
    ·have hne:y≠p2:=by
      rintro rfl;simp at h5
     refine zC4 ?_;refine WT.idxA hT Z Z Z Z Z Z Z Z Z zo ?_;rw[show 0+i*2+s.q*2=(i+s.q)*2 by omega];refine WT.vldS hT 0 hv2 Z hy2 Z Z Z Z Z Z Z Z Z (fun l hl=>?_);obtain rfl:l=_:=hl;refine WT.vidx hT hv2 Z Z Z Z Z Z Z Z Z zo (fun b6 hb6=>?_);obtain⟨z,hz⟩:∃z,s.ys[s.i]?=some z:=⟨_,gE zo⟩;have hil:s.i<s.ys.length:=by omega
     refine WT.vst (y:=y) hT 0 hv2 hb6 hz Z Z Z Z Z Z Z (fun _=>rfl) Z (fun B6 hB6=>?_);refine zC4 ?_;have ht:(s.ys.set s.i y).take (s.i+1)=s.ys.take s.i++[y]:=by
      rw[List.take_add_one,List.getElem?_set_self hil,List.take_set_of_le (Nat.le_refl _)];rfl
     refine⟨⟨s.i+1,s.q+1,s.ys.set s.i y,B6⟩,by dsimp only;omega,sM,zow,hB6,by dsimp only;omega,by dsimp only;omega,by dsimp only;omega,?_,?_,fun w=>?_⟩
     ·show (s.ys.set s.i y).drop (i+(s.q+1)-1)=xs.drop (i+(s.q+1)-1);rw[show i+(s.q+1)-1=i+s.q by omega,List.drop_set_of_lt zo,hdr2]
     ·show Strict ((s.ys.set s.i y).take (s.i+1));rw[ht];refine List.pairwise_append.2 ⟨hstr,List.pairwise_singleton _ _,fun w hw w2 hw2=>?_⟩;obtain rfl:w2=y:=by simpa using hw2
      exact asc_step hs hy hp2 zo hne ((hmem w).1 hw)
     ·show w∈(s.ys.set s.i y).take (s.i+1)↔w∈xs.take (i+(s.q+1));rw[ht,←Nat.add_assoc,take_more hy,List.mem_append,List.mem_append,hmem]
    ·have e:y=p2:=by
      simp at h5;cases y;cases p2;simp only[Lr.mk.injEq] at *;omega
     subst e;refine zC4 ?_;refine⟨⟨s.i,s.q+1,s.ys,s.B⟩,by dsimp only;omega,sM,zow,hv2,by dsimp only;omega,by dsimp only;omega,by dsimp only;omega,?_,hstr,fun w=>?_⟩
     ·show s.ys.drop (i+(s.q+1)-1)=xs.drop (i+(s.q+1)-1);rw[show i+(s.q+1)-1=i+s.q by omega,hdr2]
     ·show w∈s.ys.take s.i↔w∈xs.take (i+(s.q+1));rw[hmem,←Nat.add_assoc,take_more hy,List.mem_append]
      exact⟨.inl,fun hz=>hz.elim id fun hz=>by
       have e:w=y:=by simpa using hz
       subst e;exact mem_prev hp2 zo⟩
   ·have h4:i+s.q=m:=by simp at h4;omega
    refine AW.exit ?_;refine zC4 ?_;refine WT.slice Z Z Z Z Z Z Z Z (fun h0=>sliceA_some (lo:=s.i) (hi:=m) hT Z Z Z Z Z zo (Nat.le_refl _) (.inr rfl) h0) ?_;refine WT.vclear (x0:=(⟨0,0⟩:Lr)) (i:=s.i) (l:=m-s.i) hT 0 hv2 Z Z Z Z Z Z Z Z Z zo zo Z (fun _=>rfl) (fun B6 hB6=>?_);refine WT.freezeAll 0 Z Z (fun F6 hF6 hB6'=>?_);have harr:=hB6.arr hF6 hB6';obtain⟨sa,sc,hss,hsl⟩:=harr.slice (C:=CC) (lo:=0) (hi:=s.i) (Nat.zero_le _) zo hT (t:=259) Z Z Z none (some (.int .i64 (s.i:Nat))) rfl rfl;refine zC4 ?_;refine WT.slice Z Z Z Z Z Z Z Z hss ?_;refine zC4 ?_
    have e:(List.take s.i (List.take s.i s.ys++List.replicate (m-s.i) ⟨0,0⟩)).drop 0=s.ys.take s.i:=by
     rw[List.drop_zero,List.take_left' (by rw[List.length_take];omega)]
    rw[e] at hsl;refine AW.ret ⟨_,[],⟨_,_,rfl,rfl,rfl⟩,zsb,rfl,sa,_,sc,_,rfl,hsl,by omega,hstr,fun w=>?_⟩;rw[hmem,h4,List.take_of_length_le zo]
  ·have hne:x≠p:=by
    rintro rfl;simp at h3
   refine zC4 ?_;refine⟨i+1,by omega,sM,zow,by omega,by omega,?_⟩;rw[take_more hx];refine List.pairwise_append.2 ⟨hst,List.pairwise_singleton _ _,fun w hw w2 hw2=>?_⟩;obtain rfl:w2=x:=by simpa using hw2
   exact asc_step hs hx hp zo hne hw
 ·have h2:i=m:=by simp at h2;omega
  refine AW.exit ?_;refine AW.freezeAll 0 Z Z (fun F2 hF2 hB2=>?_);refine zC4 ?_;refine AW.ret ⟨_,[],⟨_,_,rfl,rfl,rfl⟩,zsb,rfl,_,m,_,xs,rfl,hv1.arr hF2 hB2,Nat.le_refl _,?_,fun _=>Iff.rfl⟩;rw[List.take_of_length_le zo] at hst;exact hst
def afterL(g:Gram)(x:Lr):Option Sym:=
 if x.rule=g.rules.length then (if x.dot=0 then some ⟨false,g.start⟩ else none) else match g.rules[x.rule]? with
  | some r=>r.right[x.dot]?
  | none=>none
theorem lrAfter_spec(F:Frz)(g:Gram)(hg4:∀r∈g.rules,r.right.length≤100){a:Option Addr}{m c:Nat}(hr:Arr tRule F a m c g.rules)(hm:m≤1000000)(x:Lr)(hx:x.rule≤m) :
  Abs.Spec CC 150 [.agg ⟨gramCells g a m c⟩,.agg ⟨[.int .i64 x.rule,.int .i64 x.dot]⟩] F [] fun _ v o=>o=[]∧∃(y:Sym) (b:Bool),v=.tuple ⟨[.agg ⟨[.bool y.term,.int .i64 y.n]⟩,.bool b]⟩∧(b=true→afterL g x=some y)∧(b=false→afterL g x=none):=by
 have hml:=hr.len;unfold gramCells;refine Abs.Spec.fn (n:=37) Tryz.func150 rfl rfl fun own=>?_;refine AW.seq (AW.reg ?_);refine WT.boxT Z Z Z Z Z Z (fun i2 hi2=>?_);refine WT.boxT Z Z Z Z Z Z (fun i3 hi3=>?_);refine WT.allocT hT Z Z Z Z Z Z (fun i4 hi4=>?_);refine zB4 ?_;refine AW.cond Z (fun h=>?_) (fun h=>?_)
 ·have h:x.rule=g.rules.length:=by simp at h;omega
  refine zB4 ?_;refine AW.draw (ps:=[(4,2),(4,6),(5,2),(5,6)]) Z Z ?_;refine zB4 ?_;refine WT.callV Tryz.func84 Z Z Z Z Z Z (gN_spec _ _) (fun v hv=>?_);subst hv;refine zB4 ?_;refine⟨zrC,?_⟩;refine AW.ret ⟨_,[],⟨_,_,⟨_,rfl,fun G h0 s0=>loadA_cells (s0.has (p:=0) Z me) (readT_ok hT rfl)⟩,⟨_,_,rfl,rfl,rfl⟩,rfl⟩,zsb,rfl,⟨false,g.start⟩,_,rfl,fun hb=>?_,fun hb=>?_⟩
  ·unfold afterL;rw[if_pos h,if_pos (by simpa using hb)]
  ·unfold afterL;rw[if_pos h,if_neg (by simpa using hb)]
 ·have h:x.rule<g.rules.length:=by simp at h;omega
  refine zB4 ?_;refine WT.idxL hT hr Z Z Z Z Z Z Z Z Z zo (fun r hrx b5 off5 ro5 cs5 lx5 hb5 hp5 hrel5=>?_);obtain⟨ra,rn,rc,rfl,hra⟩:=hrel5;have hral:=hra.len;have hr4:=hg4 r (gM hrx);have ha:afterL g x=r.right[x.dot]?:=by
   unfold afterL;rw[if_neg zo,hrx]
  refine zB4 ?_;refine AW.cond Z (fun h2=>?_) (fun h2=>?_)
  ·have h2:x.dot<rn:=by simp at h2;omega
   refine zB4 ?_;refine WT.idxL hT hra Z Z Z Z Z Z Z Z Z zo (fun y hy b6 off6 ro6 cs6 lx6 hb6 hp6 hrel6=>?_);obtain rfl:lx6=_:=hrel6;refine zB4 ?_;refine AW.ret ⟨_,[],⟨_,_,⟨_,rfl,fun G h0 s0=>loadA_cells (s0.has (p:=0) Z me) (readT_ok hT rfl)⟩,⟨_,_,rfl,rfl,rfl⟩,rfl⟩,zsb,rfl,y,true,rfl,fun _=>?_,fun hb=>by cases hb⟩;rw[ha,hy]
  ·have h2:rn≤x.dot:=by simp at h2;omega
   refine zB4 ?_;refine AW.ret ⟨_,[],⟨_,_,⟨_,rfl,fun G h0 s0=>loadA_cells (s0.has (p:=0) Z me) (readT_ok hT rfl)⟩,⟨_,_,rfl,rfl,rfl⟩,rfl⟩,zsb,rfl,⟨false,0⟩,false,rfl,fun hb=>(by cases hb),fun _=>?_⟩;rw[ha,List.getElem?_eq_none_iff];omega
theorem lrRight_spec(F:Frz)(g:Gram)(hg4:∀r∈g.rules,r.right.length≤100){a:Option Addr}{m c:Nat}(hr:Arr tRule F a m c g.rules)(hm:m≤1000000)(x:Nat)(hx:x≤m) :
  Abs.Spec CC 144 [.agg ⟨gramCells g a m c⟩,.int .i64 x] F [] fun _ v o=>o=[]∧∃b n d,v=.slice b n d∧n=(if x=m then 1 else ((g.rules[x]?).map (·.right.length)).getD 0):=by
 have hml:=hr.len;unfold gramCells;refine Abs.Spec.fn (n:=32) Tryz.func144 rfl rfl fun own=>?_;refine AW.seq (AW.reg ?_);refine WT.boxT Z Z Z Z Z Z (fun i2 hi2=>?_);refine zB4 ?_;refine AW.block ?_;refine zB4 ?_;refine AW.cond Z (fun h=>?_) (fun h=>?_)
 ·have h:x=m:=by simp at h;omega
  refine zB4 ?_;refine WT.callV Tryz.func84 Z Z Z Z Z Z (gN_spec _ _) (fun v hv=>?_);subst hv;refine WT.buildT hT Z Z Z Z Z Z Z Z Z Z Z Z Z Z (fun i5 hi5=>?_);refine zB4 ?_;refine AW.ret ⟨_,[],⟨_,_,rfl,rfl,rfl⟩,zsb,rfl,_,_,_,rfl,?_⟩;rw[if_pos h]
 ·have h:x<m:=by simp at h;omega
  refine zB4 ?_;refine AW.cond Z (fun h=>(by simp at h;omega)) (fun _=>?_);refine zB4 ?_;refine WT.idxL hT hr Z Z Z Z Z Z Z Z Z zo (fun r hrx b5 off5 ro5 cs5 lx5 hb5 hp5 hrel5=>?_);obtain⟨ra,rn,rc,rfl,hra⟩:=hrel5;have hral:=hra.len;have hr4:=hg4 r (gM hrx);refine zB4 ?_;refine WT.callN Tryz.func107 Z Z Z Z Z Z (symClone_spec _ hra zo) (fun F2 v B2 hF2 hv=>?_);obtain⟨ca,cc,rfl,_⟩:=hv;refine zB4 ?_;refine AW.ret ⟨_,[],⟨_,_,rfl,rfl,rfl⟩,zsb,rfl,_,_,_,rfl,?_⟩;rw[if_neg zo,hrx];exact hral
inductive Clos(g:Gram)(l:List Lr):Lr→Prop
 | base {x:Lr}:x∈l→Clos g l x
 | more {x:Lr} {n k:Nat} {r:Rule}:Clos g l x→afterL g x=some ⟨false,n⟩→g.rules[k]?=some r→r.left=n→Clos g l ⟨k,0⟩
structure ClInv(g:Gram)(l xs:List Lr):Prop where
 ad:∃ad:List Nat,xs=l++ad.map (fun k=>⟨k,0⟩)∧ad.Nodup∧∀k∈ad,k<g.rules.length
 clos:∀x∈xs,Clos g l x
def Fed(g:Gram)(xs:List Lr)(x:Lr):Prop:=∀n k r,afterL g x=some ⟨false,n⟩→g.rules[k]?=some r→r.left=n→(⟨k,0⟩:Lr)∈xs
theorem ClInv.few{g:Gram}{l xs:List Lr}(h:ClInv g l xs):xs.length≤l.length+g.rules.length:=by
 obtain⟨ad,rfl,hn,hk⟩:=h.ad;have:=nodup_lt _ ad hn hk;rw[List.length_append,List.length_map];omega
theorem ClInv.rule{g:Gram}{l xs:List Lr}(h:ClInv g l xs)(hl:∀x∈l,x.rule≤g.rules.length):∀x∈xs,x.rule≤g.rules.length:=by
 obtain⟨ad,rfl,hn,hk⟩:=h.ad;intro x hx;rcases List.mem_append.1 hx with h1 | h1
 ·exact hl x h1
 ·obtain⟨k,h2,rfl⟩:=List.mem_map.1 h1;exact Nat.le_of_lt (hk k h2)
theorem ClInv.add{g:Gram}{l xs:List Lr}(h:ClInv g l xs){x:Lr}(hx:x∈xs){n k:Nat}{r:Rule}(h1:afterL g x=some ⟨false,n⟩)(h2:g.rules[k]?=some r)(h3:r.left=n)(hno:(⟨k,0⟩:Lr)∉xs):ClInv g l (xs++[⟨k,0⟩]):=by
 obtain⟨ad,e,hn,hk⟩:=h.ad;refine⟨⟨ad++[k],by rw[e];simp,?_,?_⟩,?_⟩
 ·rw[List.nodup_append];refine⟨hn,by simp,fun a ha b hb=>?_⟩;obtain rfl:b=k:=by simpa using hb
  rintro rfl;exact hno (by rw[e];exact List.mem_append_right _ (List.mem_map.2 ⟨_,ha,rfl⟩))
 ·intro a ha;rcases List.mem_append.1 ha with ha | ha
  ·exact hk a ha
  ·obtain rfl:a=k:=by simpa using ha
   exact(gS h2).1
 ·intro y hy;rcases List.mem_append.1 hy with hy | hy
  ·exact h.clos y hy
  ·obtain rfl:y=⟨k,0⟩:=by simpa using hy
   exact .more (h.clos x hx) h1 h2 h3
theorem ClInv.full{g:Gram}{l xs:List Lr}(h:ClInv g l xs)(hf:∀x∈xs,Fed g xs x)(x:Lr):x∈xs↔Clos g l x:=by
 refine⟨h.clos x,fun hc=>?_⟩
 induction hc with
 | base h1=>obtain⟨ad,rfl,_⟩:=h.ad;exact List.mem_append_left _ h1
 | more _ h2 h3 h4 ih=>exact hf _ ih _ _ _ h2 h3 h4
theorem Fed.more{g:Gram}{xs:List Lr}{x y:Lr}(h:Fed g xs x):Fed g (xs++[y]) x:=fun n k r h1 h2 h3=>List.mem_append_left _ (h n k r h1 h2 h3)
structure KSt where
 i:Nat
 xs:List Lr
 a:Option Addr
 c:Nat
 B:List (Nat×Blk)
theorem closure_spec(F:Frz)(g:Gram)(hg4:∀r∈g.rules,r.right.length≤100){a:Option Addr}{m c:Nat}(hr:Arr tRule F a m c g.rules)(hm:m≤100){b:Option Addr}{n d:Nat}{l:List Lr}(hl:Arr tLr F b n d l)(hn:n≤1000)(hok:∀x∈l,x.rule≤g.rules.length) :
  Abs.Spec CC 152 [.agg ⟨gramCells g a m c⟩,.slice b n d] F [] fun F' v o=>o=[]∧∃a' m' c' zs,v=.slice a' m' c'∧Arr tLr F' a' m' c' zs∧m'≤n+m∧Strict zs∧∀z,z∈zs↔Clos g l z:=by
 have hml:=hr.len;have hll:=hl.len;unfold gramCells;refine Abs.Spec.fn (n:=65) Tryz.func152 rfl rfl fun own=>?_;refine AW.seq (AW.reg ?_);refine WT.boxT Z Z Z Z Z Z (fun i2 hi2=>?_);refine zC4 ?_;refine WT.callN Tryz.func193 Z Z Z Z Z Z (lrClone_spec _ hl zo) (fun F1 v B1 hF1 hv=>?_);obtain⟨ca,cc,rfl,hv⟩:=hv;have hr1:=hr.mono hF1;rw[hll] at hv;rw[hll];refine zC4 ?_;refine AW.block ?_;refine AW.loopR (S:=KSt) (fun s=>[(6,.int .i64 (s.i:Nat)),(5,.slice s.a s.xs.length s.c)]) (fun s=>s.B::[(i2,.cells false [.int .i64 g.terms,.int .i64 g.nons,.int .i64 g.start,.slice a m c])]::own)
  (fun s G=>Vec tLr G s.a s.xs.length s.c s.B s.xs∧ClInv g l s.xs∧s.i≤s.xs.length∧∀x∈s.xs.take s.i,Fed g s.xs x) (fun s=>n+m-s.i) ⟨0,l,ca,cc,B1⟩
  sM oR ⟨hv,⟨⟨[],by simp,List.nodup_nil,by simp⟩,fun x hx=>.base hx⟩,Nat.zero_le _,by simp⟩ ?_
 intro s F2 hF2 hP;obtain⟨hv2,hci,hil,hfed⟩:=hP;have hr2:=hr1.mono hF2;have hfew:=hci.few;have hrule:=hci.rule hok;refine zC4 ?_;refine AW.cond Z (fun h=>?_) (fun h=>?_)
 ·have h:s.i<s.xs.length:=by simpa using h
  obtain⟨x,hx⟩:∃x,s.xs[s.i]?=some x:=⟨_,gE h⟩;have hxm:=gM hx;have hxr:=hrule x hxm;refine zC4 ?_;refine AW.block ?_;refine zC4 ?_;refine AW.draw (ps:=[(0,9),(4,9)]) Z Z ?_;refine zC4 ?_;refine WT.vidx hT hv2 Z Z Z Z Z Z Z Z Z h (fun b5 hb5=>?_);refine WT.vldS hT 0 hv2 hb5 hx Z Z Z Z Z Z Z Z Z (fun l hl=>?_);obtain rfl:l=_:=hl;refine WT.callV Tryz.func150 Z Z Z Z Z Z (lrAfter_spec _ g hg4 hr2 zo x zo) (fun v hv=>?_);obtain⟨y,bo,rfl,hay,han⟩:=hv;refine zC4 ?_;refine WT.allocT hT Z Z Z Z Z Z (fun i7 hi7=>?_);refine zC4 ?_;obtain⟨jb,jcs,hja,hjB,_,_⟩:=hv2.at_ hx
  have hmb:(b5,Blk.cells false jcs)∈s.B:=by
   rw[hjB];rw[hb5] at hja;cases hja;exact List.mem_cons_self ..
  refine⟨zrA,?_⟩;refine zC4 ?_;have hnext:∀xs',s.xs.length≤xs'.length→xs'.take s.i=s.xs.take s.i→xs'[s.i]?=some x→(∀z∈s.xs.take s.i,Fed g xs' z)→Fed g xs' x→∀z∈xs'.take (s.i+1),Fed g xs' z:=fun xs' _ e1 e2 h1 h2 z hz=>by
   rw[List.take_add_one,e1,e2] at hz;rcases List.mem_append.1 hz with hz | hz
   ·exact h1 z hz
   ·obtain rfl:z=x:=by simpa using hz
    exact h2
  have hskip:Fed g s.xs x→∀z∈s.xs.take (s.i+1),Fed g s.xs z:=fun h=>hnext s.xs (Nat.le_refl _) rfl hx hfed h;cases bo
  ·have han:=han rfl;refine zC4 ?_;refine AW.cond Z (fun _=>?_) (fun h=>(by cases h));refine AW.exit ?_;refine zC4 ?_;exact⟨⟨s.i+1,s.xs,s.a,s.c,s.B⟩,by dsimp only;omega,sM,zow,hv2,hci,h,hskip (fun n k r h1 _ _=>by rw[han] at h1;cases h1)⟩
  have hay:=hay rfl;refine zC4 ?_;refine AW.cond Z (fun h3=>?_) (fun h3=>?_)
  ·have h3:y.term=true:=by simpa using h3
   refine AW.exit ?_;refine zC4 ?_;exact⟨⟨s.i+1,s.xs,s.a,s.c,s.B⟩,by dsimp only;omega,sM,zow,hv2,hci,h,hskip (fun n k r h1 _ _=>by rw[hay] at h1;injection h1 with h1;rw[h1] at h3;cases h3)⟩
  have h3:y.term=false:=by simpa using h3
  have hay2:afterL g x=some ⟨false,y.n⟩:=by rw[hay,←h3]
  refine zC4 ?_;refine AW.range (S:=KSt) (fun u=>[(5,.slice u.a u.xs.length u.c)]) (fun u=>[(i7,.cells false [.bool y.term,.int .i64 y.n])]::u.B::[(i2,.cells false [.int .i64 g.terms,.int .i64 g.nons,.int .i64 g.start,.slice a m c])]::own)
   (fun k u G=>Vec tLr G u.a u.xs.length u.c u.B u.xs∧ClInv g l u.xs∧s.xs.length≤u.xs.length∧u.xs.take s.i=s.xs.take s.i∧u.xs[s.i]?=some x∧(∀z∈s.xs.take s.i,Fed g u.xs z)∧∀k' r,k'<k→g.rules[k']?=some r→r.left=y.n→(⟨k',0⟩:Lr)∈u.xs) m ⟨0,s.xs,s.a,s.c,s.B⟩
   Z Z Z Z Z Z Z Z Z zo rfl rfl (fun _=>rfl) (fun _=>rfl) sM oR ⟨hv2,hci,Nat.le_refl _,rfl,hx,hfed,fun k' r h=>absurd h (Nat.not_lt_zero _)⟩ ?_ ?_
  ·intro j u F3 hF3 hj hP;obtain⟨hvu,hcu,hlu,htu,hxu,hfu,hku⟩:=hP;have hr3:=hr2.mono hF3;have hfewu:=hcu.few;have hxum:=gM hxu;refine zC4 ?_;refine WT.idxL hT hr3 Z Z Z Z Z Z Z Z Z zo (fun r hrj b8 off8 ro8 cs8 lx8 hb8 hp8 hrel8=>?_);obtain⟨ra,rn,rc,rfl,hra⟩:=hrel8;refine zC4 ?_;refine WT.allocT hT Z Z Z Z Z Z (fun i10 hi10=>?_);refine zC4 ?_;refine WT.allocT hT Z Z Z Z Z Z (fun i11 hi11=>?_);refine zC4 ?_;refine WT.split 50 Z (fun h4=>?_) (fun h4=>?_)
   ·have h4:r.left=y.n:=by simp at h4;omega
    refine zC4 ?_;refine WT.callLend 3 Tryz.func194 Z Z Z Z Z Z Z (fun G hG hBG=>lrContains_spec G (hvu.arr hG hBG) zo ⟨j,0⟩) (fun v hv=>?_);subst hv;refine zC4 ?_;refine AW.cond Z (fun h5=>?_) (fun h5=>?_)
    ·have h5:(⟨j,0⟩:Lr)∉u.xs:=by simpa using h5
     refine zC4 ?_;have hbu:=hvu.bld (fun e=>by rw[e] at hxum;cases hxum);refine WT.buildT hT Z Z Z Z Z Z Z Z Z Z Z Z Z Z (fun i12 hi12=>?_);refine WT.appendT (ys:=[(⟨j,0⟩:Lr)]) hT 4 hbu Z (fun _=>rfl) Z Z Z Z Z Z Z Z Z Z Z (fun h0 s0=>news_own hT s0 0 Z Z Z Z) (Cells.single (R:=tLr) (x:=(⟨j,0⟩:Lr)) rfl) Z (by decide) zom (fun a3 c3 B3 hB3=>?_);have hl2:u.xs.length+1=(u.xs++[(⟨j,0⟩:Lr)]).length:=by simp
     rw[hl2] at hB3 ⊢;refine zC4 ?_;have hil2:s.i<u.xs.length:=by omega
     refine⟨⟨0,u.xs++[⟨j,0⟩],a3,c3,B3⟩,sM,zow,hB3.vec,hcu.add hxum hay2 hrj h4 h5,by simp;omega,?_,?_,fun z hz=>(hfu z hz).more,fun k' r' h1 h2 h3=>?_⟩
     ·show (u.xs++[_]).take s.i=_;rw[List.take_append_of_le_length zo,htu]
     ·show (u.xs++[_])[s.i]?=_;rw[List.getElem?_append_left hil2,hxu]
     ·rcases Nat.lt_or_ge k' j with h6 | h6
      ·exact List.mem_append_left _ (hku k' r' h6 h2 h3)
      ·obtain rfl:k'=j:=by omega
       exact List.mem_append_right _ me
    ·have h5:(⟨j,0⟩:Lr)∈u.xs:=by simpa using h5
     refine zC4 ?_;refine⟨u,sM,zow,hvu,hcu,hlu,htu,hxu,hfu,fun k' r' h1 h2 h3=>?_⟩;rcases Nat.lt_or_ge k' j with h6 | h6
     ·exact hku k' r' h6 h2 h3
     ·obtain rfl:k'=j:=by omega
      exact h5
   ·have h4:r.left≠y.n:=by simp at h4;omega
    refine zC4 ?_;refine AW.cond Z (fun h=>(by cases h)) (fun _=>?_);refine zC4 ?_;refine⟨u,sM,zow,hvu,hcu,hlu,htu,hxu,hfu,fun k' r' h1 h2 h3=>?_⟩;rcases Nat.lt_or_ge k' j with h6 | h6
    ·exact hku k' r' h6 h2 h3
    ·obtain rfl:k'=j:=by omega
     rw[hrj] at h2;cases h2;exact absurd h3 h4
  ·intro u F3 hF3 hP;obtain⟨hvu,hcu,hlu,htu,hxu,hfu,hku⟩:=hP;have hfewu:=hcu.few;refine zC4 ?_;refine⟨⟨s.i+1,u.xs,u.a,u.c,u.B⟩,by dsimp only;omega,sM,zow,hvu,hcu,by dsimp only;omega,hnext u.xs hlu htu hxu hfu (fun n k r h1 h2 h3=>?_)⟩;rw[hay2] at h1;cases h1;have:=(gS h2).1;exact hku k r zo h2 h3
 ·have h:s.i=s.xs.length:=by simp at h;omega
  rw[h,List.take_length] at hfed;have hfull:=hci.full hfed;refine AW.exit ?_;refine zC4 ?_;obtain⟨hp,hs⟩:=sort_facts ltLr_swo s.xs;have hsl:=hp.length_eq;refine WT.call1F 0 Tryz.func195 Z Z Z Z Z Z Z (fun _=>rfl) (lrSort_spec _ (lrOrder_cmp _) hv2 zo) (fun F7 v B7 hF7 hv7=>?_);refine zC4 ?_;refine WT.callF (oin:=[B7]) Tryz.func197 Z Z Z Z Z Z (lrCompact_spec F7 hv7 zo hs) (List.Perm.refl _) (fun F8 v oout hF8 hv8=>?_);obtain⟨rfl,a8,m8,c8,zs,rfl,hz,hzm,hst,hmem⟩:=hv8;refine zC4 ?_;refine AW.ret ⟨_,[],⟨_,_,rfl,rfl,rfl⟩,zsb,rfl,a8,m8,c8,zs,rfl,hz,by omega,hst,fun z=>?_⟩;rw[hmem,hp.mem_iff,hfull]
inductive Nul(g:Gram):Nat→Prop
 | mk {r:Rule}:r∈g.rules→(∀s∈r.right,s.term=false)→(∀s∈r.right,Nul g s.n)→Nul g r.left
def NulL(g:Gram)(l:List Sym):Prop:=∀s∈l,s.term=false∧Nul g s.n
inductive Beg(g:Gram):Nat→Nat→Prop
 | term {r:Rule} {pre post:List Sym} {t:Nat}:r∈g.rules→r.right=pre++⟨true,t⟩::post→NulL g pre→Beg g r.left t
 | non {r:Rule} {pre post:List Sym} {m t:Nat}:r∈g.rules→r.right=pre++⟨false,m⟩::post→NulL g pre→Beg g m t→Beg g r.left t
def BegL(g:Gram)(l:List Sym)(t:Nat):Prop:=∃pre s post,l=pre++s::post∧NulL g pre∧(s=⟨true,t⟩∨(s.term=false∧Beg g s.n t))
theorem Nul.of{g:Gram}{r:Rule}(h:r∈g.rules)(h2:NulL g r.right):Nul g r.left:=.mk h (fun s hs=>(h2 s hs).1) (fun s hs=>(h2 s hs).2)
theorem Beg.of{g:Gram}{r:Rule}{t:Nat}(h:r∈g.rules)(h2:BegL g r.right t):Beg g r.left t:=by
 obtain⟨pre,s,post,e,hn,h3⟩:=h2;rcases h3 with rfl | ⟨h3,h4⟩
 ·exact .term h e hn
 ·obtain⟨b,n⟩:=s;obtain rfl:b=false:=h3;exact .non h e hn h4
theorem NulL.nil{g:Gram}:NulL g []:=fun _ h=>by cases h
theorem NulL.cons{g:Gram}{s:Sym}{l:List Sym}(h1:s.term=false)(h2:Nul g s.n)(h:NulL g l):NulL g (s::l):=fun x hx=>by
 rcases List.mem_cons.1 hx with rfl | hx
 ·exact⟨h1,h2⟩
 ·exact h x hx
theorem BegL.head{g:Gram}{s:Sym}{l:List Sym}{t:Nat}(h:s=⟨true,t⟩∨(s.term=false∧Beg g s.n t)):BegL g (s::l) t:=⟨[],s,l,rfl,NulL.nil,h⟩
theorem BegL.cons{g:Gram}{s:Sym}{l:List Sym}{t:Nat}(h1:s.term=false)(h2:Nul g s.n)(h:BegL g l t):BegL g (s::l) t:=by
 obtain⟨pre,x,post,e,hn,h3⟩:=h;exact⟨s::pre,x,post,by rw[e];rfl,NulL.cons h1 h2 hn,h3⟩
mutual
theorem TreeOf.begin{g:Gram}{w:List Nat}:∀{t:Tree} {s:Sym} {i j:Nat},TreeOf g w s t i j→(i=j→s.term=false∧Nul g s.n)∧(i<j→∃c,w[i]?=some c∧(s=⟨true,c⟩∨(s.term=false∧Beg g s.n c)))
 | .mk _ _ _,_,i,_,.leaf h=>⟨fun e=>by omega,fun _=>⟨_,h,.inl rfl⟩⟩
 | .mk _ _ ks,_,i,j,.node h h2=>by
  have hm:=gM h;obtain⟨h3,h4⟩:=TreesOf.begin h2;refine⟨fun e=>⟨rfl,.of hm (h3 e)⟩,fun e=>?_⟩;obtain⟨c,hc,hb⟩:=h4 e;exact⟨c,hc,.inr ⟨rfl,.of hm hb⟩⟩
theorem TreesOf.begin{g:Gram}{w:List Nat}:∀{ts:List Tree} {l:List Sym} {i j:Nat},TreesOf g w l ts i j→(i=j→NulL g l)∧(i<j→∃c,w[i]?=some c∧BegL g l c)
 | [],_,i,_,.nil=>⟨fun _=>NulL.nil,fun e=>by omega⟩
 | t::ts,_,i,j,.cons (m:=m) h1 h2=>by
  have hle1:=(TreeOf.le h1).1;have hle2:=(TreesOf.le h2).1;obtain⟨a1,a2⟩:=TreeOf.begin h1;obtain⟨b1,b2⟩:=TreesOf.begin h2;refine⟨fun e=>?_,fun e=>?_⟩
  ·obtain⟨h3,h4⟩:=a1 zo;exact NulL.cons h3 h4 (b1 zo)
  ·by_cases hm:i<m
   ·obtain⟨c,hc,h5⟩:=a2 hm;exact⟨c,hc,BegL.head h5⟩
   ·obtain rfl:i=m:=by omega
    obtain⟨h3,h4⟩:=a1 rfl;obtain⟨c,hc,h5⟩:=b2 e;exact⟨c,hc,BegL.cons h3 h4 h5⟩
end
def rightL(g:Gram)(k:Nat):List Sym:=if k=g.rules.length then [⟨false,g.start⟩] else ((g.rules[k]?).map (·.right)).getD []
theorem rightL_rule{g:Gram}{k:Nat}{r:Rule}(h:g.rules[k]?=some r):rightL g k=r.right:=by
 unfold rightL;rw[if_neg (by have:=(gS h).1;omega),h];rfl
theorem rightL_start{g:Gram}:rightL g g.rules.length=[⟨false,g.start⟩]:=if_pos rfl
theorem afterL_right{g:Gram}{x:Lr}:afterL g x=(rightL g x.rule)[x.dot]?:=by
 unfold afterL rightL;split
 ·cases hd:x.dot with
  | zero=>rfl
  | succ d=>rfl
 ·cases h:g.rules[x.rule]? with
  | none=>rfl
  | some r=>rfl
def restL(g:Gram)(x:Lr):List Sym:=(rightL g x.rule).drop (x.dot+1)
structure LRok(g:Gram)(it:Nat→Lr→Prop)(la:Nat→Lr→Nat→Prop)(go:Nat→Sym→Option Nat):Prop where
 start:it 0 ⟨g.rules.length,0⟩
 startL:la 0 ⟨g.rules.length,0⟩ g.terms
 clos:∀{s:Nat} {x:Lr} {k:Nat} {r:Rule},it s x→afterL g x=some ⟨false,r.left⟩→g.rules[k]?=some r→it s ⟨k,0⟩
 closL:∀{s:Nat} {x:Lr} {k:Nat} {r:Rule} {t u:Nat},it s x→la s x u→afterL g x=some ⟨false,r.left⟩→g.rules[k]?=some r→(BegL g (restL g x) t∨(NulL g (restL g x)∧la s x t))→la s ⟨k,0⟩ t
 step:∀{s:Nat} {x:Lr} {y:Sym},it s x→afterL g x=some y→∃s',go s y=some s'∧it s' ⟨x.rule,x.dot+1⟩∧∀t,la s x t→la s' ⟨x.rule,x.dot+1⟩ t
 back:∀{s s':Nat} {y:Sym} {k d:Nat},go s y=some s'→it s' ⟨k,d+1⟩→it s ⟨k,d⟩∧afterL g ⟨k,d⟩=some y
 fill:∀{s:Nat} {k:Nat} {r:Rule},it s ⟨k,0⟩→g.rules[k]?=some r→∃s',go s ⟨false,r.left⟩=some s'
 first:∀{s:Nat},it s ⟨g.rules.length,0⟩→s=0
 zero:∀{s:Nat} {y:Sym},go s y≠some 0
 dots:∀{x:Lr},it 0 x→x.dot=0
inductive Act where
 | no
 | shift (s:Nat)
 | red (k:Nat)
 | acc
deriving DecidableEq
inductive ActOf(g:Gram)(it:Nat→Lr→Prop)(la:Nat→Lr→Nat→Prop)(go:Nat→Sym→Option Nat)(s t:Nat):Act→Prop
 | shift {s':Nat}:t<g.terms→go s ⟨true,t⟩=some s'→ActOf g it la go s t (.shift s')
 | red {k:Nat} {r:Rule}:g.rules[k]?=some r→it s ⟨k,r.right.length⟩→la s ⟨k,r.right.length⟩ t→ActOf g it la go s t (.red k)
 | acc:it s ⟨g.rules.length,1⟩→la s ⟨g.rules.length,1⟩ t→ActOf g it la go s t .acc
structure Only(g:Gram)(it:Nat→Lr→Prop)(la:Nat→Lr→Nat→Prop)(go:Nat→Sym→Option Nat)(act:Nat→Nat→Act):Prop where
 all:∀{s t:Nat} {a:Act},ActOf g it la go s t a→act s t=a
 one:∀{s t:Nat},act s t≠.no→ActOf g it la go s t (act s t)
abbrev Conf:=List Nat×List Tree
def topS(σ:List Nat):Nat:=σ.getLast?.getD 0
def redS(g:Gram)(go:Nat→Sym→Option Nat)(act:Nat→Nat→Act)(t:Nat)(c:Conf):Conf:=match act (topS c.1) t with
 | .red k=>match g.rules[k]? with
  | some r=>(c.1.take (c.1.length-r.right.length)++[(go (topS (c.1.take (c.1.length-r.right.length))) ⟨false,r.left⟩).getD 0],
    c.2.take (c.2.length-r.right.length)++[.mk k 0 (c.2.drop (c.2.length-r.right.length))])
  | none=>c
 | _=>c
def lookW(g:Gram)(w:List Nat)(i:Nat):Nat:=(w[i]?).getD g.terms
inductive LStk(g:Gram)(go:Nat→Sym→Option Nat)(w:List Nat):List Nat→List Tree→Nat→Prop
 | nil:LStk g go w [0] [] 0
 | snoc {σ:List Nat} {τ:List Tree} {i j s s':Nat} {y:Sym} {T:Tree}:LStk g go w (σ++[s]) τ i→go s y=some s'→TreeOf g w y T i j→LStk g go w (σ++[s]++[s']) (τ++[T]) j
theorem topS_snoc(σ:List Nat)(s:Nat):topS (σ++[s])=s:=by unfold topS;rw[List.getLast?_append];rfl
section
variable {g:Gram}{it:Nat→Lr→Prop}{la:Nat→Lr→Nat→Prop}{go:Nat→Sym→Option Nat}{act:Nat→Nat→Act}{w:List Nat}
inductive Run(g:Gram)(go:Nat→Sym→Option Nat)(act:Nat→Nat→Act)(w:List Nat)(a:Conf×Nat):Nat→Conf×Nat→Prop
 | refl:Run g go act w a 0 a
 | red {n:Nat} {c:Conf} {i k:Nat}:Run g go act w a n (c,i)→act (topS c.1) (lookW g w i)=.red k→Run g go act w a (n+1) (redS g go act (lookW g w i) c,i)
 | shift {n:Nat} {c:Conf} {i t s':Nat}:Run g go act w a n (c,i)→w[i]?=some t→act (topS c.1) t=.shift s'→Run g go act w a n ((c.1++[s'],c.2++[.mk (-1) t []]),i+1)
theorem Run.trans{a b c:Conf×Nat}{n m:Nat}(h1:Run g go act w a n b)(h2:Run g go act w b m c):Run g go act w a (n+m) c:=by
 induction h2 with
 | refl=>exact h1
 | red h3 h4 ih=>exact .red ih h4
 | shift h3 h4 h5 ih=>exact .shift ih h4 h5
def Allowed(g:Gram)(la:Nat→Lr→Nat→Prop)(s:Nat)(x:Lr)(t:Nat):Prop:=BegL g (restL g x) t∨(NulL g (restL g x)∧la s x t)
theorem lookW_at{i t:Nat}(h:w[i]?=some t):lookW g w i=t:=by unfold lookW;rw[h];rfl
mutual
theorem TreeOf.run(ok:LRok g it la go)(on:Only g it la go act)(hw:∀t∈w,t<g.terms):∀{T:Tree} {X:Sym} {i j:Nat},TreeOf g w X T i j→∀{σ:List Nat} {τ:List Tree} {x:Lr},it (topS σ) x→(∃u,la (topS σ) x u)→afterL g x=some X→Allowed g la (topS σ) x (lookW g w j)→
  ∃s' n,go (topS σ) X=some s'∧n≤T.pre.length∧Run g go act w ((σ,τ),i) n ((σ++[s'],τ++[T]),j)
 | .mk _ t _,_,i,_,.leaf h,σ,τ,x,hx,_,ha,_=>by
  obtain⟨s',h1,h2,h3⟩:=ok.step hx ha;have hact:=on.all (.shift (hw t (gM h)) h1);exact⟨s',0,h1,Nat.zero_le _,.shift (c:=(σ,τ)) .refl h hact⟩
 | .mk _ _ ks,_,i,j,.node (k:=k) (r:=r) h h2,σ,τ,x,hx,⟨u,hu⟩,ha,hal=>by
  obtain⟨s',h3,_,_⟩:=ok.step hx ha;have hk0:=ok.clos hx ha h;have hk1:=ok.closL (t:=lookW g w j) hx hu ha h hal;obtain⟨σ',n,e1,e2,e3,e4,e5⟩:=TreesOf.run ok on hw h2 (σ:=σ) (τ:=τ) (k:=k) (d:=0) (r:=r) h hk0 hk1 (Nat.zero_le _) rfl;have hact:=on.all (.red h e2 e3);refine⟨s',n+1,h3,?_,?_⟩
  ·show n+1≤((k:Int)::preL ks).length;rw[List.length_cons];omega
  ·have hred:=Run.red e5 hact;have hsl:σ'.length=r.right.length:=by rw[e1,TreesOf.len h2]
   have e:redS g go act (lookW g w j) (σ++σ',τ++ks)=(σ++[s'],τ++[.mk k 0 ks]):=by
    unfold redS;dsimp only;rw[hact];dsimp only;rw[h];dsimp only;have e7:(σ++σ').length-r.right.length=σ.length:=by rw[List.length_append,hsl];omega
    have e8:(τ++ks).length-r.right.length=τ.length:=by rw[List.length_append,TreesOf.len h2];omega
    rw[e7,e8,List.take_left,List.take_left,List.drop_left,h3];rfl
   rw[e] at hred;exact hred
theorem TreesOf.run(ok:LRok g it la go)(on:Only g it la go act)(hw:∀t∈w,t<g.terms):∀{ts:List Tree} {l:List Sym} {i j:Nat},TreesOf g w l ts i j→∀{σ:List Nat} {τ:List Tree} {k d:Nat} {r:Rule},g.rules[k]?=some r→it (topS σ) ⟨k,d⟩→la (topS σ) ⟨k,d⟩ (lookW g w j)→d≤r.right.length→r.right.drop d=l→
  ∃σ' n,σ'.length=ts.length∧it (topS (σ++σ')) ⟨k,r.right.length⟩∧la (topS (σ++σ')) ⟨k,r.right.length⟩ (lookW g w j)∧n≤(preL ts).length∧Run g go act w ((σ,τ),i) n ((σ++σ',τ++ts),j)
 | [],_,i,_,.nil,σ,τ,k,d,r,hk,hit,hla,hdl,hd=>by
  obtain rfl:d=r.right.length:=by have:=List.drop_eq_nil_iff.1 hd;omega
  refine⟨[],0,rfl,?_,?_,Nat.zero_le _,?_⟩
  ·rw[List.append_nil];exact hit
  ·rw[List.append_nil];exact hla
  ·rw[List.append_nil,List.append_nil];exact .refl
 | T::ts,s::l,i,j,.cons (m:=m) h1 h2,σ,τ,k,d,r,hk,hit,hla,hdl,hd=>by
  have hd1:r.right[d]?=some s:=by rw[←List.head?_drop,hd];rfl
  have hd2:r.right.drop (d+1)=l:=by rw[←List.tail_drop,hd];rfl
  have hdlt:=(gS hd1).1;have haf:afterL g ⟨k,d⟩=some s:=by rw[afterL_right];show (rightL g k)[d]?=_;rw[rightL_rule hk];exact hd1
  have hrest:restL g ⟨k,d⟩=l:=by unfold restL;show (rightL g k).drop (d+1)=_;rw[rightL_rule hk];exact hd2
  obtain⟨b1,b2⟩:=TreesOf.begin h2;have hle:=(TreesOf.le h2).1;have hal:Allowed g la (topS σ) ⟨k,d⟩ (lookW g w m):=by
   unfold Allowed;rw[hrest];by_cases hm:m<j
   ·obtain⟨c,hc,h5⟩:=b2 hm;rw[lookW_at hc];exact .inl h5
   ·obtain rfl:m=j:=by omega
    exact .inr ⟨b1 rfl,hla⟩
  obtain⟨s',n1,e1,e2,e3⟩:=TreeOf.run ok on hw h1 hit ⟨_,hla⟩ haf hal;obtain⟨s2,f1,f2,f3⟩:=ok.step hit haf;rw[e1] at f1;obtain rfl:=Option.some.inj f1;obtain⟨σ',n2,g1,g2,g3,g4,g5⟩:=TreesOf.run ok on hw h2 (σ:=σ++[s']) (τ:=τ++[T]) (k:=k) (d:=d+1) (r:=r) hk (by rw[topS_snoc];exact f2) (by rw[topS_snoc];exact f3 _ hla) hdlt hd2;have e:∀x:List Nat,σ++[s']++x=σ++(s'::x):=fun x=>by simp
  have e':∀x:List Tree,τ++[T]++x=τ++(T::x):=fun x=>by simp
  rw[e] at g2 g3 g5;rw[e'] at g5;refine⟨s'::σ',n1+n2,by rw[List.length_cons,g1];rfl,g2,g3,?_,e3.trans g5⟩;show _≤(T.pre++preL ts).length;rw[List.length_append];omega
end
end
theorem Strict.nodupL{l:List Lr}(h:Strict l):l.Nodup:=
 List.Pairwise.imp (fun {a b} hab e=>by subst e;rw[ltLr_iff] at hab;omega) h
theorem strict_uniq{l1 l2:List Lr}(h1:Strict l1)(h2:Strict l2)(h:∀z,z∈l1↔z∈l2):l1=l2:=
 List.Perm.eq_of_pairwise (le:=fun x y=>ltLr x y=true) (fun a b _ _ h1 h2=>by rw[ltLr_iff] at h1 h2;omega) h1 h2 ((List.perm_ext_iff_of_nodup h1.nodupL h2.nodupL).2 h)
def allLr(g:Gram):List Lr:=((List.range (g.rules.length+1)).map fun k=>(List.range ((rightL g k).length+1)).map fun d=>(⟨k,d⟩:Lr)).flatten
theorem mem_allLr{g:Gram}{z:Lr}:z∈allLr g↔z.rule≤g.rules.length∧z.dot≤(rightL g z.rule).length:=by
 unfold allLr;rw[List.mem_flatten];constructor
 ·rintro⟨l,hl,hz⟩;obtain⟨k,hk,rfl⟩:=List.mem_map.1 hl;obtain⟨d,hd,rfl⟩:=List.mem_map.1 hz;rw[List.mem_range] at hk hd;exact⟨by dsimp only;omega,by dsimp only;omega⟩
 ·rintro⟨h1,h2⟩;exact⟨_,List.mem_map.2 ⟨z.rule,List.mem_range.2 zo,rfl⟩,List.mem_map.2 ⟨z.dot,List.mem_range.2 zo,rfl⟩⟩
theorem pairwise_range{α:Type}{R:α→α→Prop}{f:Nat→α}:∀{n:Nat},(∀i j,i<j→j<n→R (f i) (f j))→((List.range n).map f).Pairwise R:=by
 intro n h;rw[List.pairwise_map];refine List.Pairwise.imp_of_mem ?_ (List.pairwise_lt_range);intro a b ha hb hab;exact h a b hab (List.mem_range.1 hb)
theorem allLr_strict(g:Gram):Strict (allLr g):=by
 unfold allLr Strict;rw[List.pairwise_flatten];refine⟨fun l hl=>?_,?_⟩
 ·obtain⟨k,_,rfl⟩:=List.mem_map.1 hl;exact pairwise_range fun i j h _=>ltLr_iff.2 (.inr ⟨rfl,h⟩)
 ·refine pairwise_range fun i j h _ x hx y hy=>?_;obtain⟨_,_,rfl⟩:=List.mem_map.1 hx;obtain⟨_,_,rfl⟩:=List.mem_map.1 hy;exact ltLr_iff.2 (.inl h)
noncomputable def closL(g:Gram)(l:List Lr):List Lr:=(allLr g).filter fun z=>@decide (Clos g l z) (Classical.propDecidable _)
theorem closL_strict(g:Gram)(l:List Lr):Strict (closL g l):=List.Pairwise.filter _ (allLr_strict g)
def OkLr(g:Gram)(x:Lr):Prop:=x.rule≤g.rules.length∧x.dot≤(rightL g x.rule).length
theorem Clos.okL{g:Gram}{l:List Lr}(hl:∀x∈l,OkLr g x){x:Lr}(h:Clos g l x):OkLr g x:=by
 induction h with
 | base h=>exact hl _ h
 | more _ _ h _ _=>exact⟨Nat.le_of_lt (gS h).1,Nat.zero_le _⟩
theorem mem_closL{g:Gram}{l:List Lr}(hl:∀x∈l,OkLr g x){z:Lr}:z∈closL g l↔Clos g l z:=by
 unfold closL;rw[List.mem_filter,mem_allLr];constructor
 ·rintro⟨_,h⟩;exact @of_decide_eq_true _ (Classical.propDecidable _) h
 ·intro h;exact⟨h.okL hl,@decide_eq_true _ (Classical.propDecidable _) h⟩
theorem closL_eq{g:Gram}{l zs:List Lr}(hl:∀x∈l,OkLr g x)(h1:Strict zs)(h2:∀z,z∈zs↔Clos g l z):zs=closL g l:=
 strict_uniq h1 (closL_strict g l) fun z=>by rw[h2,mem_closL hl]
section
variable {α:Type}[DecidableEq α]
def addOne(sts:List α):Option α→List α×Int
 | none=>(sts,-1)
 | some s=>if s∈sts then (sts,(sts.idxOf s:Nat)) else (sts++[s],(sts.length:Nat))
def addAll:List α→List (Option α)→List α×List Int
 | sts,[]=>(sts,[])
 | sts,o::os=>((addAll (addOne sts o).1 os).1,(addOne sts o).2::(addAll (addOne sts o).1 os).2)
def numF(most:Nat)(step:α→List (Option α)):Nat→Nat→List α→List (List Int)→Option (List α×List (List Int))
 | 0,_,_,_=>none
 | f+1,i,sts,rows=>match sts[i]? with
  | none=>some (sts,rows)
  | some st=>if (addAll sts (step st)).1.length≤most then numF most step f (i+1) (addAll sts (step st)).1 (rows++[(addAll sts (step st)).2]) else none
structure RowOf(sts:List α)(os:List (Option α))(row:List Int):Prop where
 len:row.length=os.length
 no:∀k:Nat,os[k]?=some none→row[k]?=some (-1)
 yes:∀(k:Nat) (s:α),os[k]?=some (some s)→∃j:Nat,row[k]?=some (j:Int)∧sts[j]?=some s
theorem addOne_ok(sts:List α)(o:Option α):(∃ex,(addOne sts o).1=sts++ex)∧(sts.Nodup→(addOne sts o).1.Nodup)∧(∀s∈(addOne sts o).1,s∈sts∨o=some s)∧
  (o=none→(addOne sts o).2=-1)∧(∀s,o=some s→∃j:Nat,(addOne sts o).2=(j:Int)∧(addOne sts o).1[j]?=some s):=by
 cases o with
 | none=>exact⟨⟨[],(List.append_nil _).symm⟩,fun h=>h,fun s h=>.inl h,fun _=>rfl,fun s h=>by cases h⟩
 | some s=>
  unfold addOne;by_cases h:s∈sts
  ·simp only[if_pos h];refine⟨⟨[],(List.append_nil _).symm⟩,fun h=>h,fun s h=>.inl h,fun h=>(by cases h),fun s' e=>?_⟩;cases e;exact⟨_,rfl,by rw[gE (List.idxOf_lt_length_of_mem h),List.getElem_idxOf]⟩
  ·simp only[if_neg h];refine⟨⟨[s],rfl⟩,fun hn=>?_,fun x hx=>?_,fun h=>(by cases h),fun s' e=>?_⟩
   ·rw[List.nodup_append];exact⟨hn,by simp,fun a ha b hb e=>h (by rw[List.mem_singleton] at hb;subst hb;subst e;exact ha)⟩
   ·rcases List.mem_append.1 hx with hx | hx
    ·exact .inl hx
    ·exact .inr (by rw[List.mem_singleton.1 hx])
   ·cases e;exact⟨_,rfl,by rw[List.getElem?_append_right (Nat.le_refl _),Nat.sub_self];rfl⟩
theorem addAll_ok:∀(os:List (Option α)) (sts:List α),(∃ex,(addAll sts os).1=sts++ex)∧(sts.Nodup→(addAll sts os).1.Nodup)∧(∀s∈(addAll sts os).1,s∈sts∨some s∈os)∧RowOf (addAll sts os).1 os (addAll sts os).2
 | [],sts=>⟨⟨[],(List.append_nil _).symm⟩,fun h=>h,fun s h=>.inl h,⟨rfl,fun k h=>by simp at h,fun k s h=>by simp at h⟩⟩
 | o::os,sts=>by
  obtain⟨⟨e1,h1⟩,h2,h3,h4,h5⟩:=addOne_ok sts o;obtain⟨⟨e2,g1⟩,g2,g3,g4⟩:=addAll_ok os (addOne sts o).1;have e:(addAll sts (o::os))=((addAll (addOne sts o).1 os).1,(addOne sts o).2::(addAll (addOne sts o).1 os).2):=rfl;rw[e];refine⟨⟨e1++e2,?_⟩,fun hn=>g2 (h2 hn),fun s hs=>?_,⟨?_,fun k hk=>?_,fun k s hk=>?_⟩⟩
  ·rw[g1,h1,List.append_assoc]
  ·rcases g3 s hs with hs | hs
   ·rcases h3 s hs with hs | hs
    ·exact .inl hs
    ·exact .inr (by rw[hs];exact List.mem_cons_self ..)
   ·exact .inr (List.mem_cons_of_mem _ hs)
  ·simp only[List.length_cons,g4.len]
  ·cases k with
   | zero=>simp only[List.getElem?_cons_zero] at hk ⊢;rw[h4 (Option.some.inj hk)]
   | succ k=>simp only[List.getElem?_cons_succ] at hk ⊢;exact g4.no k hk
  ·cases k with
   | zero=>
    simp only[List.getElem?_cons_zero] at hk ⊢;obtain⟨j,h6,h7⟩:=h5 s (Option.some.inj hk);refine⟨j,by rw[h6],?_⟩;show (addAll (addOne sts o).1 os).1[j]?=some s;rw[g1,List.getElem?_append_left (gS h7).1];exact h7
   | succ k=>simp only[List.getElem?_cons_succ] at hk ⊢;exact g4.yes k s hk
omit [DecidableEq α] in
theorem RowOf.more{sts ex:List α}{os:List (Option α)}{row:List Int}(h:RowOf sts os row):RowOf (sts++ex) os row:=
 ⟨h.len,h.no,fun k s hk=>let ⟨j,h1,h2⟩:=h.yes k s hk;⟨j,h1,by rw[List.getElem?_append_left (gS h2).1];exact h2⟩⟩
structure NumI(most:Nat)(step:α→List (Option α))(first:α)(i:Nat)(sts:List α)(rows:List (List Int)):Prop where
 first:sts[0]?=some first
 nodup:sts.Nodup
 few:sts.length≤most
 len:rows.length=i
 le:i≤sts.length
 row:∀(k:Nat) (st:α) (row:List Int),sts[k]?=some st→rows[k]?=some row→RowOf sts (step st) row
 from_:∀(j:Nat) (st:α),0<j→sts[j]?=some st→∃(k:Nat) (sk:α),k<j∧k<i∧sts[k]?=some sk∧some st∈step sk
theorem NumI.next{most:Nat}{step:α→List (Option α)}{first:α}{i:Nat}{sts:List α}{rows:List (List Int)}(h:NumI most step first i sts rows){st:α}(hst:sts[i]?=some st)(hm:(addAll sts (step st)).1.length≤most) :
  NumI most step first (i+1) (addAll sts (step st)).1 (rows++[(addAll sts (step st)).2]):=by
 obtain⟨⟨ex,h1⟩,h2,h3,h4⟩:=addAll_ok (step st) sts;have hi:=(gS hst).1;have hleft:∀k,k<sts.length→(addAll sts (step st)).1[k]?=sts[k]?:=fun k hk=>by rw[h1,List.getElem?_append_left hk]
 refine⟨by rw[hleft 0 zo];exact h.first,h2 h.nodup,hm,by rw[List.length_append,h.len];rfl,by rw[h1,List.length_append];omega,fun k sk row hk hr=>?_,fun j sj hj hsj=>?_⟩
 ·by_cases e:k<i
  ·rw[hleft k zo] at hk;rw[List.getElem?_append_left (by rw[h.len];exact e)] at hr;have:=h.row k sk row hk hr;rw[h1];exact this.more
  ·have hk2:k=i:=by
    have:=(gS hr).1;rw[List.length_append,h.len,List.length_singleton] at this;omega
   subst hk2;rw[hleft k hi,hst] at hk;obtain rfl:=Option.some.inj hk;rw[List.getElem?_append_right (by rw[h.len];exact Nat.le_refl _),h.len,Nat.sub_self] at hr;obtain rfl:=Option.some.inj hr;exact h4
 ·by_cases e:j<sts.length
  ·rw[hleft j e] at hsj;obtain⟨k,sk,g1,g2,g3,g4⟩:=h.from_ j sj hj hsj;exact⟨k,sk,g1,by omega,by rw[hleft k zo];exact g3,g4⟩
  ·refine⟨i,st,by omega,by omega,by rw[hleft i hi];exact hst,?_⟩;rcases h3 sj (gM hsj) with h5 | h5
   ·exfalso;obtain⟨k,hk,hk2⟩:=List.getElem_of_mem h5;have hnd:=h2 h.nodup;have e1:(addAll sts (step st)).1[k]?=some sj:=by rw[hleft k hk,gE hk,hk2]
    have e2:=(gS hsj).1;have:=(List.getElem?_inj (by rw[h1,List.length_append];omega) hnd).1 (e1.trans hsj.symm);omega
   ·exact h5
omit [DecidableEq α] in
theorem NumI.begin{most:Nat}(step:α→List (Option α))(first:α)(hm:1≤most):NumI most step first 0 [first] []:=
 ⟨rfl,by simp,hm,rfl,Nat.zero_le _,fun k st row _ h=>by simp at h,fun j st hj h=>by
  have:=(gS h).1;rw[List.length_singleton] at this;omega⟩
theorem numF_ok{most:Nat}{step:α→List (Option α)}{first:α}:∀(f i:Nat) {sts:List α} {rows:List (List Int)},NumI most step first i sts rows→∀{sts' rows'},numF most step f i sts rows=some (sts',rows')→NumI most step first sts'.length sts' rows'
 | 0,_,_,_,_,_,_,h=>by cases h
 | f+1,i,sts,rows,hI,sts',rows',h=>by
  unfold numF at h;split at h
  ·rename_i hn;cases h;have:=List.getElem?_eq_none_iff.1 hn;have hle:=hI.le;have e:i=sts.length:=by omega
   rw[←e];exact hI
  ·rename_i st hst;split at h
   ·rename_i hm;exact numF_ok f (i+1) (hI.next hst hm) h
   ·cases h
end
theorem NumI.all{α:Type}{most:Nat}{step:α→List (Option α)}{first:α}{i:Nat}{sts:List α}{rows:List (List Int)}(h:NumI most step first i sts rows){P:α→Prop}(h0:P first)(hs:∀st s,P st→some s∈step st→P s):∀(j:Nat) (st:α),sts[j]?=some st→P st:=by
 intro j
 induction j using Nat.strongRecOn with
 | _ j ih=>
  intro st hst;by_cases e:j=0
  ·subst e;rw[h.first] at hst
   obtain rfl:=Option.some.inj hst;exact h0
  ·obtain⟨k,sk,h1,_,h3,h4⟩:=h.from_ j st zo hst;exact hs sk st (ih k h1 sk h3) h4
def kern(g:Gram)(st:List Lr)(y:Sym):List Lr:=st.filterMap fun x=>if afterL g x=some y then some ⟨x.rule,x.dot+1⟩ else none
theorem mem_kern{g:Gram}{st:List Lr}{y:Sym}{z:Lr}:z∈kern g st y↔∃x∈st,afterL g x=some y∧z=⟨x.rule,x.dot+1⟩:=by
 unfold kern;rw[List.mem_filterMap];constructor
 ·rintro⟨x,hx,h⟩;split at h
  ·rename_i ha;exact⟨x,hx,ha,(Option.some.inj h).symm⟩
  ·cases h
 ·rintro⟨x,hx,ha,rfl⟩;exact⟨x,hx,by rw[if_pos ha]⟩
def symsL(g:Gram):List Sym:=((List.range g.terms).map fun t=>(⟨true,t⟩:Sym))++(List.range g.nons).map fun n=>(⟨false,n⟩:Sym)
def idxS(g:Gram)(y:Sym):Nat:=if y.term=true then y.n else y.n+g.terms
def symB(g:Gram)(y:Sym):Bool:=if y.term=true then decide (y.n<g.terms) else decide (y.n<g.nons)
theorem symB_iff{g:Gram}{y:Sym}:symB g y=true↔SymOk g.terms g.nons y:=by
 unfold symB SymOk;split<;>simp
theorem symsL_len(g:Gram):(symsL g).length=g.terms+g.nons:=by unfold symsL;simp
theorem symsL_at{g:Gram}{y:Sym}(h:SymOk g.terms g.nons y):(symsL g)[idxS g y]?=some y:=by
 obtain⟨b,n⟩:=y;unfold symsL idxS;unfold SymOk at h;cases b with
 | true=>
  have h:n<g.terms:=h;rw[if_pos rfl,List.getElem?_append_left (by simpa using h)];simp[h]
 | false=>
  have h:n<g.nons:=h;rw[if_neg (by simp),List.getElem?_append_right (by simp)];simp[h]
theorem symsL_ok{g:Gram}{k:Nat}{y:Sym}(h:(symsL g)[k]?=some y):SymOk g.terms g.nons y∧idxS g y=k:=by
 unfold symsL at h;by_cases hk:k<g.terms
 ·rw[List.getElem?_append_left (by simpa using hk)] at h;simp[hk] at h;subst h;exact⟨hk,rfl⟩
 ·rw[List.getElem?_append_right (by simp;omega)] at h;rw[List.length_map,List.length_range,List.getElem?_map] at h;cases he:(List.range g.nons)[k-g.terms]? with
  | none=>rw[he] at h;cases h
  | some n=>
   rw[he] at h;obtain rfl:=Option.some.inj h;have h1:=gS he;obtain⟨h1,h2⟩:=h1;rw[List.getElem_range] at h2;rw[List.length_range] at h1;refine⟨show n<g.nons by omega,?_⟩;show n+g.terms=k;omega
theorem afterL_sym{g:Gram}(hg:Valid g){x:Lr}{y:Sym}(h:afterL g x=some y):SymOk g.terms g.nons y:=by
 rw[afterL_right] at h;unfold rightL at h;split at h
 ·have:=gM h;rw[List.mem_singleton.1 this];exact hg.range.start
 ·cases hr:g.rules[x.rule]? with
  | none=>rw[hr] at h;simp at h
  | some r=>
   rw[hr] at h;exact(hg.right r (gM hr)).2.2 y (gM h)
theorem Clos.zero{g:Gram}{l:List Lr}{z:Lr}(h:Clos g l z):z∈l∨(z.dot=0∧z.rule<g.rules.length):=by
 cases h with
 | base h=>exact .inl h
 | more _ _ h _=>exact .inr ⟨rfl,(gS h).1⟩
structure AutoC(g:Gram)(I:List (List Lr))(rows:List (List Int)):Prop where
 len:rows.length=I.length
 ok:∀(s:Nat) (st:List Lr),I[s]?=some st→∀x∈st,OkLr g x
 zero:∃st,I[0]?=some st∧∀z,z∈st↔Clos g [⟨g.rules.length,0⟩] z
 from_:∀(s:Nat) (st:List Lr),0<s→I[s]?=some st→∃l:List Lr,(∀x∈l,0<x.dot)∧l≠[]∧∀z,z∈st↔Clos g l z
 row:∀(s:Nat) (st:List Lr) (row:List Int),I[s]?=some st→rows[s]?=some row→row.length=g.terms+g.nons
 no:∀(s k:Nat) (st:List Lr) (row:List Int) (y:Sym),I[s]?=some st→rows[s]?=some row→(symsL g)[k]?=some y→kern g st y=[]→row[k]?=some (-1)
 yes:∀(s k:Nat) (st:List Lr) (row:List Int) (y:Sym),I[s]?=some st→rows[s]?=some row→(symsL g)[k]?=some y→kern g st y≠[]→∃(j:Nat) (st':List Lr),row[k]?=some (j:Int)∧I[j]?=some st'∧∀z,z∈st'↔Clos g (kern g st y) z
def itI(I:List (List Lr))(s:Nat)(x:Lr):Prop:=∃st,I[s]?=some st∧x∈st
def goR(g:Gram)(rows:List (List Int))(s:Nat)(y:Sym):Option Nat:=if symB g y=true then (match rows[s]? with
 | some row=>(match row[idxS g y]? with
  | some j=>if 0≤j then some j.toNat else none
  | none=>none)
 | none=>none) else none
section
variable {g:Gram}{I:List (List Lr)}{rows:List (List Int)}
theorem AutoC.rowAt(h:AutoC g I rows){s:Nat}{st:List Lr}(hs:I[s]?=some st):∃row,rows[s]?=some row:=⟨_,gE (by rw[h.len];exact(gS hs).1)⟩
theorem AutoC.go(hg:Valid g)(h:AutoC g I rows){s:Nat}{st:List Lr}(hs:I[s]?=some st){y:Sym}(hy:SymOk g.terms g.nons y) :
  (kern g st y=[]→goR g rows s y=none)∧(kern g st y≠[]→∃j st',goR g rows s y=some j∧I[j]?=some st'∧∀z,z∈st'↔Clos g (kern g st y) z):=by
 obtain⟨row,hr⟩:=h.rowAt hs;have hk:=symsL_at hy;unfold goR;rw[if_pos (symB_iff.2 hy),hr];dsimp only;refine⟨fun e=>?_,fun e=>?_⟩
 ·rw[h.no s _ st row y hs hr hk e];rfl
 ·obtain⟨j,st',h1,h2,h3⟩:=h.yes s _ st row y hs hr hk e;rw[h1];exact⟨j,st',by simp,h2,h3⟩
theorem AutoC.goes(hg:Valid g)(h:AutoC g I rows){s s':Nat}{y:Sym}(hgo:goR g rows s y=some s'):∃st st',I[s]?=some st∧I[s']?=some st'∧kern g st y≠[]∧∀z,z∈st'↔Clos g (kern g st y) z:=by
 have hy:SymOk g.terms g.nons y:=by
  unfold goR at hgo;split at hgo
  ·rename_i hb;exact symB_iff.1 hb
  ·cases hgo
 obtain⟨st,hs⟩:∃st,I[s]?=some st:=by
  unfold goR at hgo;rw[if_pos (symB_iff.2 hy)] at hgo;split at hgo
  ·rename_i row hr;exact⟨_,gE (by rw[←h.len];exact(gS hr).1)⟩
  ·cases hgo
 obtain⟨h1,h2⟩:=h.go hg hs hy;by_cases e:kern g st y=[]
 ·rw[h1 e] at hgo;cases hgo
 ·obtain⟨j,st',h3,h4,h5⟩:=h2 e;rw[hgo] at h3;obtain rfl:=Option.some.inj h3;exact⟨st,st',hs,h4,e,h5⟩
theorem AutoC.lr(hg:Valid g)(h:AutoC g I rows){la:Nat→Lr→Nat→Prop}(h0:la 0 ⟨g.rules.length,0⟩ g.terms)
  (hc:∀{s:Nat} {x:Lr} {k:Nat} {r:Rule} {t u:Nat},itI I s x→la s x u→afterL g x=some ⟨false,r.left⟩→g.rules[k]?=some r→(BegL g (restL g x) t∨(NulL g (restL g x)∧la s x t))→la s ⟨k,0⟩ t)
  (hs:∀{s s':Nat} {x:Lr} {y:Sym},itI I s x→afterL g x=some y→goR g rows s y=some s'→∀t,la s x t→la s' ⟨x.rule,x.dot+1⟩ t):LRok g (itI I) la (goR g rows):=by
 obtain⟨st0,hst0,hz⟩:=h.zero;have hall:∀{s:Nat} {st:List Lr},I[s]?=some st→∃l:List Lr,(∀z,z∈st↔Clos g l z)∧((s=0∧l=[⟨g.rules.length,0⟩])∨∀x∈l,0<x.dot):=fun {s st} hst=>by
  rcases Nat.eq_zero_or_pos s with rfl | hp
  ·rw[hst0] at hst;obtain rfl:=Option.some.inj hst;exact⟨_,hz,.inl ⟨rfl,rfl⟩⟩
  ·obtain⟨l,h1,_,h3⟩:=h.from_ s st hp hst;exact⟨l,h3,.inr h1⟩
 exact {
  start:=⟨st0,hst0,(hz _).2 (.base me)⟩
  startL:=h0
  clos:=fun {s x k r} ⟨st,hst,hx⟩ ha hr=>by
   obtain⟨l,hl,_⟩:=hall hst;exact⟨st,hst,(hl _).2 (.more ((hl _).1 hx) ha hr rfl)⟩
  closL:=hc
  step:=fun {s x y} hit ha=>by
   obtain⟨st,hst,hx⟩:=id hit;have hm:(⟨x.rule,x.dot+1⟩:Lr)∈kern g st y:=mem_kern.2 ⟨x,hx,ha,rfl⟩;obtain⟨j,st',h1,h2,h3⟩:=(h.go hg hst (afterL_sym hg ha)).2 (fun e=>by rw[e] at hm;cases hm);exact⟨j,h1,⟨st',h2,(h3 _).2 (.base hm)⟩,hs hit ha h1⟩
  back:=fun {s s' y k d} hgo ⟨st2,hst2,hx⟩=>by
   obtain⟨st,st',h1,h2,_,h4⟩:=h.goes hg hgo;rw[h2] at hst2;obtain rfl:=Option.some.inj hst2;rcases ((h4 _).1 hx).zero with h5 | ⟨h5,_⟩
   ·obtain⟨z,hz1,hz2,hz3⟩:=mem_kern.1 h5;obtain⟨Z,zd⟩:=z;simp only[Lr.mk.injEq,Nat.add_right_cancel_iff] at hz3;obtain⟨rfl,rfl⟩:=hz3;exact⟨⟨st,h1,hz1⟩,hz2⟩
   ·exact absurd h5 (Nat.succ_ne_zero d)
  fill:=fun {s k r} ⟨st,hst,hx⟩ hr=>by
   obtain⟨l,hl,hl2⟩:=hall hst;have hk:=(gS hr).1;have hc:=(hl _).1 hx;cases hc with
   | base hb=>
    rcases hl2 with ⟨_,rfl⟩ | hl2
    ·have e:=List.mem_singleton.1 hb;simp only[Lr.mk.injEq,and_true] at e;omega
    ·exact absurd (hl2 _ hb) (Nat.lt_irrefl 0)
   | more h1 h2 h3 h4=>
    rw[hr] at h3;obtain rfl:=Option.some.inj h3;subst h4;have hm:=mem_kern.2 ⟨_,(hl _).2 h1,h2,rfl⟩;obtain⟨j,st',g1,_,_⟩:=(h.go hg hst (afterL_sym hg h2)).2 (fun e=>by rw[e] at hm;cases hm);exact⟨j,g1⟩
  first:=fun {s} ⟨st,hst,hx⟩=>by
   obtain⟨l,hl,hl2⟩:=hall hst;rcases hl2 with ⟨h1,_⟩ | hl2
   ·exact h1
   ·rcases ((hl _).1 hx).zero with h3 | ⟨_,h3⟩
    ·exact absurd (hl2 _ h3) (Nat.lt_irrefl 0)
    ·exact absurd h3 (Nat.lt_irrefl _)
  zero:=fun {s y} hgo=>by
   obtain⟨st,st',h1,h2,h3,h4⟩:=h.goes hg hgo;rw[hst0] at h2;obtain rfl:=Option.some.inj h2;obtain⟨z,hzk⟩:=List.exists_mem_of_ne_nil _ h3;have hd:0<z.dot:=by obtain⟨x,_,_,rfl⟩:=mem_kern.1 hzk;exact Nat.succ_pos _
   rcases ((hz z).1 ((h4 z).2 (.base hzk))).zero with h5 | ⟨h5,_⟩
   ·rw[List.mem_singleton.1 h5] at hd;exact absurd hd (Nat.lt_irrefl 0)
   ·omega
  dots:=fun {x} ⟨st,hst,hx⟩=>by
   rw[hst0] at hst;obtain rfl:=Option.some.inj hst;rcases ((hz x).1 hx).zero with h5 | ⟨h5,_⟩
   ·rw[List.mem_singleton.1 h5]
   ·exact h5 }
end
noncomputable def maskOf(P:Nat→Prop):Nat→Nat
 | 0=>0
 | n+1=>maskOf P n+(if @decide (P n) (Classical.propDecidable _)=true then 2 ^ n else 0)
theorem maskOf_lt(P:Nat→Prop):∀n,maskOf P n<2 ^ n
 | 0=>Nat.one_pos
 | n+1=>by
  have:=maskOf_lt P n;unfold maskOf;rw[Nat.pow_succ];split<;>omega
theorem maskOf_bit(P:Nat→Prop):∀(n t:Nat),(maskOf P n).testBit t=true↔t<n∧P t
 | 0,t=>by unfold maskOf;simp
 | n+1,t=>by
  have h1:=maskOf_lt P n;have h2:=maskOf_bit P n t;unfold maskOf;by_cases e:t=n
  ·subst e;have h3:(maskOf P t).testBit t=false:=Nat.testBit_lt_two_pow h1;split
   ·rename_i h;rw[Nat.add_comm,Nat.testBit_two_pow_add_eq,h3];simp only[Bool.not_false,true_iff];exact⟨Nat.lt_succ_self _,@of_decide_eq_true _ (Classical.propDecidable _) h⟩
   ·rename_i h;rw[Nat.add_zero,h3];simp only[Bool.false_eq_true,false_iff,not_and];exact fun _ hp=>h (@decide_eq_true _ (Classical.propDecidable _) hp)
  ·have h4:(t<n+1∧P t)↔(t<n∧P t):=⟨fun ⟨a,b⟩=>⟨by omega,b⟩,fun ⟨a,b⟩=>⟨by omega,b⟩⟩;rw[h4,←h2];split
   ·by_cases e2:t<n
    ·rw[Nat.add_comm,Nat.testBit_two_pow_add_gt zo]
    ·have e3:n<t:=by omega
     have a1:(maskOf P n).testBit t=false:=Nat.testBit_lt_two_pow (Nat.lt_trans h1 (Nat.pow_lt_pow_right (by decide) e3));have a2:(maskOf P n+2 ^ n).testBit t=false:=Nat.testBit_lt_two_pow (by
      have:2 ^ (n+1)≤2 ^ t:=Nat.pow_le_pow_right (by decide) e3;rw[Nat.pow_succ] at this;omega)
     rw[a1,a2]
   ·rw[Nat.add_zero]
theorem mask_uniq{P:Nat→Prop}{n m:Nat}(h1:m<2 ^ n)(h2:∀t,m.testBit t=true↔t<n∧P t):m=maskOf P n:=by
 apply Nat.eq_of_testBit_eq;intro t;have:=maskOf_bit P n t;rw[←h2] at this;cases hm:m.testBit t<;>cases hk:(maskOf P n).testBit t<;>simp[hm,hk] at this ⊢
structure Look where
 item:Lr
 set:Nat
deriving DecidableEq,Inhabited
def itemsK(l:List Look):List Lr:=l.map (·.item)
inductive LAc(g:Gram)(l:List Look):Lr→Nat→Prop
 | base {z:Lr} {m t:Nat}:⟨z,m⟩∈l→m.testBit t=true→t≤g.terms→LAc g l z t
 | beg {x:Lr} {k t:Nat} {r:Rule}:Clos g (itemsK l) x→afterL g x=some ⟨false,r.left⟩→g.rules[k]?=some r→BegL g (restL g x) t→LAc g l ⟨k,0⟩ t
 | pass {x:Lr} {k t:Nat} {r:Rule}:Clos g (itemsK l) x→afterL g x=some ⟨false,r.left⟩→g.rules[k]?=some r→NulL g (restL g x)→LAc g l x t→LAc g l ⟨k,0⟩ t
noncomputable def closeK(g:Gram)(l:List Look):List Look:=(closL g (itemsK l)).map fun z=>⟨z,maskOf (LAc g l z) (g.terms+1)⟩
theorem closeK_items(g:Gram)(l:List Look):itemsK (closeK g l)=closL g (itemsK l):=by
 unfold itemsK closeK;rw[List.map_map];have:(fun x:Look=>x.item) ∘ (fun z=>(⟨z,maskOf (LAc g l z) (g.terms+1)⟩:Look))=id:=rfl;rw[this,List.map_id];rfl
theorem mem_closeK{g:Gram}{l:List Look}(hl:∀x∈itemsK l,OkLr g x){z:Lr}{m:Nat}:⟨z,m⟩∈closeK g l↔Clos g (itemsK l) z∧m=maskOf (LAc g l z) (g.terms+1):=by
 unfold closeK;rw[List.mem_map];constructor
 ·rintro⟨x,hx,e⟩;rw[mem_closL hl] at hx;simp only[Look.mk.injEq] at e;obtain⟨rfl,rfl⟩:=e;exact⟨hx,rfl⟩
 ·rintro⟨hz,rfl⟩;exact⟨z,(mem_closL hl).2 hz,rfl⟩
theorem Beg.lt{g:Gram}(hg:Valid g){n t:Nat}(h:Beg g n t):t<g.terms:=by
 induction h with
 | term hr e _=>
  have:=(hg.right _ hr).2.2 ⟨true,_⟩ (by rw[e];exact List.mem_append_right _ me);exact this
 | non _ _ _ _ ih=>exact ih
theorem BegL.lt{g:Gram}(hg:Valid g){l:List Sym}(hl:∀s∈l,SymOk g.terms g.nons s){t:Nat}(h:BegL g l t):t<g.terms:=by
 obtain⟨pre,s,post,rfl,_,h3⟩:=h;rcases h3 with rfl | ⟨_,h4⟩
 ·exact hl _ (List.mem_append_right _ me)
 ·exact h4.lt hg
theorem rightL_ok{g:Gram}(hg:Valid g)(k:Nat):∀s∈rightL g k,SymOk g.terms g.nons s:=by
 unfold rightL;split
 ·intro s hs;rw[List.mem_singleton.1 hs];exact hg.range.start
 ·cases h:g.rules[k]? with
  | none=>intro s hs;cases hs
  | some r=>exact(hg.right r (gM h)).2.2
theorem rest_lt{g:Gram}(hg:Valid g){x:Lr}{t:Nat}(h:BegL g (restL g x) t):t<g.terms:=
 h.lt hg fun s hs=>rightL_ok hg _ s (List.mem_of_mem_drop hs)
theorem LAc.le{g:Gram}(hg:Valid g){l:List Look}{z:Lr}{t:Nat}(h:LAc g l z t):t≤g.terms:=by
 induction h with
 | base _ _ h=>exact h
 | beg _ _ _ h=>exact Nat.le_of_lt (rest_lt hg h)
 | pass _ _ _ _ _ ih=>exact ih
theorem LAc.clos{g:Gram}{l:List Look}{z:Lr}{t:Nat}(h:LAc g l z t):Clos g (itemsK l) z:=by
 cases h with
 | base h _ _=>exact .base (List.mem_map.2 ⟨_,h,rfl⟩)
 | beg h1 h2 h3 _=>exact .more h1 h2 h3 rfl
 | pass h1 h2 h3 _ _=>exact .more h1 h2 h3 rfl
theorem look_closeK{g:Gram}(hg:Valid g){l:List Look}(hl:∀x∈itemsK l,OkLr g x){z:Lr}{t:Nat}:(∃m,⟨z,m⟩∈closeK g l∧m.testBit t=true)↔LAc g l z t:=by
 constructor
 ·rintro⟨m,hm,ht⟩;obtain⟨_,rfl⟩:=(mem_closeK hl).1 hm;exact((maskOf_bit _ _ _).1 ht).2
 ·intro h;exact⟨_,(mem_closeK hl).2 ⟨h.clos,rfl⟩,(maskOf_bit _ _ _).2 ⟨Nat.lt_succ_of_le (h.le hg),h⟩⟩
noncomputable def stepI(g:Gram)(st:List Lr):List (Option (List Lr)):=(symsL g).map fun y=>if kern g st y=[] then none else some (closL g (kern g st y))
def kernK(g:Gram)(st:List Look)(y:Sym):List Look:=st.filterMap fun x=>if afterL g x.item=some y then some ⟨⟨x.item.rule,x.item.dot+1⟩,x.set⟩ else none
noncomputable def stepK(g:Gram)(st:List Look):List (Option (List Look)):=(symsL g).map fun y=>if kernK g st y=[] then none else some (closeK g (kernK g st y))
noncomputable def firstI(g:Gram):List Lr:=closL g [⟨g.rules.length,0⟩]
noncomputable def firstK(g:Gram):List Look:=closeK g [⟨⟨g.rules.length,0⟩,2 ^ g.terms⟩]
noncomputable def autoI(g:Gram):Option (List (List Lr)×List (List Int)):=numF 400 (stepI g) 401 0 [firstI g] []
noncomputable def autoK(g:Gram):Option (List (List Look)×List (List Int)):=numF 400 (stepK g) 401 0 [firstK g] []
theorem kernK_items(g:Gram)(st:List Look)(y:Sym):itemsK (kernK g st y)=kern g (itemsK st) y:=by
 unfold itemsK kernK kern
 induction st with
 | nil=>rfl
 | cons a st ih=>
  rw[List.map_cons,List.filterMap_cons,List.filterMap_cons];by_cases h:afterL g a.item=some y
  ·rw[if_pos h,if_pos h];simp only[List.map_cons,ih]
  ·rw[if_neg h,if_neg h];exact ih
theorem mem_kernK{g:Gram}{st:List Look}{y:Sym}{z:Lr}{m:Nat}:⟨z,m⟩∈kernK g st y↔∃x,⟨x,m⟩∈st∧afterL g x=some y∧z=⟨x.rule,x.dot+1⟩:=by
 unfold kernK;rw[List.mem_filterMap];constructor
 ·rintro⟨⟨x,n⟩,hx,h⟩;split at h
  ·rename_i ha;have:=Option.some.inj h;simp only[Look.mk.injEq] at this;obtain⟨rfl,rfl⟩:=this;exact⟨x,hx,ha,rfl⟩
  ·cases h
 ·rintro⟨x,hx,ha,rfl⟩;exact⟨⟨x,m⟩,hx,by rw[if_pos ha]⟩
theorem kern_ok{g:Gram}{st:List Lr}{y:Sym}:∀z∈kern g st y,OkLr g z∧0<z.dot:=by
 intro z hz;obtain⟨x,_,ha,rfl⟩:=mem_kern.1 hz;rw[afterL_right] at ha;have h2:=(gS ha).1;refine⟨⟨?_,h2⟩,Nat.succ_pos _⟩;show x.rule≤_;rcases Nat.lt_or_ge g.rules.length x.rule with h | h
 ·unfold rightL at h2;rw[if_neg zo,List.getElem?_eq_none zo] at h2;simp at h2
 ·exact h
theorem start_ok{g:Gram}:∀z∈[(⟨g.rules.length,0⟩:Lr)],OkLr g z:=by
 intro z hz;rw[List.mem_singleton.1 hz];exact⟨Nat.le_refl _,Nat.zero_le _⟩
theorem map_at{α β:Type}{f:α→β}{l:List α}{k:Nat}{a:α}(h:l[k]?=some a):(l.map f)[k]?=some (f a):=by rw[List.getElem?_map,h];rfl
theorem closL_ok{g:Gram}{l:List Lr}:∀x∈closL g l,OkLr g x:=fun x hx=>mem_allLr.1 (List.mem_filter.1 hx).1
theorem autoI_ok{g:Gram}{I:List (List Lr)}{rows:List (List Int)}(h:autoI g=some (I,rows)):AutoC g I rows∧NumI 400 (stepI g) (firstI g) I.length I rows:=by
 have hN:=numF_ok 401 0 (NumI.begin (stepI g) (firstI g) (by decide)) h;refine⟨?_,hN⟩;have hstep:∀(st:List Lr) (k:Nat) (y:Sym),(symsL g)[k]?=some y→(stepI g st)[k]?=some (if kern g st y=[] then none else some (closL g (kern g st y))):=fun st k y hk=>map_at hk;exact {
  len:=hN.len
  ok:=hN.all (P:=fun st=>∀x∈st,OkLr g x) closL_ok (fun st s _ hs=>by
   obtain⟨y,_,hy⟩:=List.mem_map.1 hs;split at hy
   ·cases hy
   ·obtain rfl:=Option.some.inj hy;exact closL_ok)
  zero:=⟨_,hN.first,fun z=>mem_closL start_ok⟩
  from_:=fun s st hp hs=>by
   obtain⟨k,sk,_,_,h3,h4⟩:=hN.from_ s st hp hs;obtain⟨y,_,hy⟩:=List.mem_map.1 h4;split at hy
   ·cases hy
   ·rename_i hne;obtain rfl:=Option.some.inj hy;exact⟨_,fun x hx=>(kern_ok x hx).2,hne,fun z=>mem_closL fun x hx=>(kern_ok x hx).1⟩
  row:=fun s st row hs hr=>by
   rw[(hN.row s st row hs hr).len];unfold stepI;rw[List.length_map,symsL_len]
  no:=fun s k st row y hs hr hk he=>(hN.row s st row hs hr).no k (by rw[hstep st k y hk,if_pos he])
  yes:=fun s k st row y hs hr hk he=>by
   obtain⟨j,h1,h2⟩:=(hN.row s st row hs hr).yes k _ (by rw[hstep st k y hk,if_neg he]);exact⟨j,_,h1,h2,fun z=>mem_closL fun x hx=>(kern_ok x hx).1⟩ }
theorem kernK_nil{g:Gram}{st:List Look}{y:Sym}:kernK g st y=[]↔kern g (itemsK st) y=[]:=by
 rw[←kernK_items];unfold itemsK;exact List.map_eq_nil_iff.symm
theorem autoK_ok{g:Gram}{S:List (List Look)}{rows:List (List Int)}(h:autoK g=some (S,rows)):AutoC g (S.map itemsK) rows∧NumI 400 (stepK g) (firstK g) S.length S rows:=by
 have hN:=numF_ok 401 0 (NumI.begin (stepK g) (firstK g) (by decide)) h;refine⟨?_,hN⟩;have hstep:∀(st:List Look) (k:Nat) (y:Sym),(symsL g)[k]?=some y→(stepK g st)[k]?=some (if kernK g st y=[] then none else some (closeK g (kernK g st y))):=fun st k y hk=>map_at hk;have hat:∀{s:Nat} {st:List Lr},(S.map itemsK)[s]?=some st→∃sk,S[s]?=some sk∧st=itemsK sk:=fun {s st} hs=>by
  rw[List.getElem?_map] at hs;cases hk:S[s]? with
  | none=>rw[hk] at hs;cases hs
  | some sk=>rw[hk] at hs;exact⟨sk,rfl,(Option.some.inj hs).symm⟩
 have hmem:∀(st:List Look) (y:Sym) (z:Lr),z∈itemsK (closeK g (kernK g st y))↔Clos g (kern g (itemsK st) y) z:=fun st y z=>by
  rw[closeK_items,kernK_items,mem_closL fun x hx=>(kern_ok x hx).1]
 exact {
  len:=by rw[List.length_map];exact hN.len
  ok:=fun s st hs=>by
   obtain⟨sk0,hs0,rfl⟩:=hat hs;refine hN.all (P:=fun st=>∀x∈itemsK st,OkLr g x) (fun x hx=>?_) (fun st s _ hs=>?_) s sk0 hs0
   ·unfold firstK at hx;rw[closeK_items] at hx;exact closL_ok x hx
   ·obtain⟨y,_,hy⟩:=List.mem_map.1 hs;split at hy
    ·cases hy
    ·obtain rfl:=Option.some.inj hy;intro x hx;rw[closeK_items] at hx;exact closL_ok x hx
  zero:=⟨_,map_at hN.first,fun z=>by
   show z∈itemsK (closeK g _)↔_;rw[closeK_items];exact mem_closL start_ok⟩
  from_:=fun s st hp hs=>by
   obtain⟨sk0,hs0,rfl⟩:=hat hs;obtain⟨k,sk,_,_,h3,h4⟩:=hN.from_ s sk0 hp hs0;obtain⟨y,_,hy⟩:=List.mem_map.1 h4;split at hy
   ·cases hy
   ·rename_i hne;obtain rfl:=Option.some.inj hy;exact⟨_,fun x hx=>(kern_ok x hx).2,fun e=>hne (kernK_nil.2 e),hmem sk y⟩
  row:=fun s st row hs hr=>by
   obtain⟨sk0,hs0,rfl⟩:=hat hs;rw[(hN.row s sk0 row hs0 hr).len];unfold stepK;rw[List.length_map,symsL_len]
  no:=fun s k st row y hs hr hk he=>by
   obtain⟨sk0,hs0,rfl⟩:=hat hs;exact(hN.row s sk0 row hs0 hr).no k (by rw[hstep sk0 k y hk,if_pos (kernK_nil.2 he)])
  yes:=fun s k st row y hs hr hk he=>by
   obtain⟨sk0,hs0,rfl⟩:=hat hs;obtain⟨j,h1,h2⟩:=(hN.row s sk0 row hs0 hr).yes k _ (by rw[hstep sk0 k y hk,if_neg (fun e=>he (kernK_nil.1 e))]);exact⟨j,_,h1,map_at h2,hmem sk0 y⟩ }
end Go.Proofs.D
set_option linter.unusedVariables false
namespace Bd
abbrev Ru:=Nat×List Nat
inductive Pd(R:List Ru)(s0:Nat):List Nat→Nat→Prop
 | start:Pd R s0 [] s0
 | one {z m:Nat} {w l:List Nat} {r:Ru}:r∈R→r.2=z::(3+m)::l→Pd R s0 w r.1→Pd R s0 (z::w) m
 | two {y z m:Nat} {w l:List Nat} {r:Ru}:r∈R→r.2=y::z::(3+m)::l→Pd R s0 w r.1→Pd R s0 (z::y::w) m
 | clo {m:Nat} {w l:List Nat} {r:Ru}:Pd R s0 w r.1→r∈R→r.2=(3+m)::l→Pd R s0 w m
section
variable (R:List Ru)(s0:Nat)
def I1:List Nat→Ru→Prop
 | z::w,r=>(∃l,r.2=z::l)∧Pd R s0 w r.1
 | _,_=>False
def I2:List Nat→Ru→Prop
 | z::y::w,r=>(∃l,r.2=y::z::l)∧Pd R s0 w r.1
 | _,_=>False
def I3:List Nat→Ru→Prop
 | z::y::x::w,r=>(∃l,r.2=x::y::z::l)∧Pd R s0 w r.1
 | _,_=>False
def Same(a b:List Nat):Prop:=∀r∈R,(I1 R s0 a r↔I1 R s0 b r)∧(I2 R s0 a r↔I2 R s0 b r)∧(I3 R s0 a r↔I3 R s0 b r)
def Lf(p:List Nat):List Nat:=(List.range 4).filter fun n=>R.any fun r=>r.1==n&&p.isPrefixOf r.2
end
theorem pigeon:∀(N:Nat) (l:List Nat),l.Nodup→(∀x∈l,x<N)→l.length≤N:=by
 intro N
 induction N with
 | zero=>
  intro l hl h;cases l with
  | nil=>simp
  | cons a t=>exact absurd (h a me) (Nat.not_lt_zero _)
 | succ N ih=>
  intro l hl h
  have h1:=ih (l.erase N) (hl.erase N) (fun x hx=>by
   have:=(hl.mem_erase_iff).1 hx;have:=h x this.2;omega)
  have h2:=List.length_erase (a:=N) (l:=l);split at h2<;>omega
theorem bcount{α:Type}{P:α→α→Prop}(f:α→Nat)(N:Nat)(l:List α)(hd:l.Pairwise fun a b=>¬P a b)(hN:∀a∈l,f a<N)
  (hf:∀a∈l,∀b∈l,f a=f b→P a b):l.length≤N:=by
 have h:(l.map f).Nodup:=by
  rw[List.nodup_iff_pairwise_ne,List.pairwise_map];exact hd.imp_of_mem fun ha hb h e=>h (hf _ ha _ hb e)
 have:=pigeon N (l.map f) h (fun x hx=>by obtain⟨a,ha,rfl⟩:=List.mem_map.1 hx;exact hN a ha);simpa using this
theorem parts{α κ:Type}[DecidableEq κ](c:α→κ):∀(C:List κ) (l:List α),(∀a∈l,c a∈C)→
  l.length≤(C.map fun k=>(l.filter fun a=>c a=k).length).sum:=by
 intro C
 induction C with
 | nil=>
  intro l h;cases l with
  | nil=>simp
  | cons a t=>exact absurd (h a me) List.not_mem_nil
 | cons k C ih=>
  intro l h
  have h1:=ih (l.filter fun a=>¬c a=k) (fun a ha=>by
   rw[List.mem_filter] at ha;have h2:=h a ha.1;rcases List.mem_cons.1 h2 with h3 | h3
   ·exact absurd h3 (by simpa using ha.2)
   ·exact h3)
  have h2:l.length=(l.filter fun a=>c a=k).length+(l.filter fun a=>¬c a=k).length:=by
   have:=List.length_eq_countP_add_countP (fun a=>decide (c a=k)) (l:=l);rw[List.countP_eq_length_filter,List.countP_eq_length_filter] at this;simpa using this
  have h3:(C.map fun k'=>((l.filter fun a=>¬c a=k).filter fun a=>c a=k').length).sum≤(C.map fun k'=>(l.filter fun a=>c a=k').length).sum:=by
   clear ih h h1 h2
   induction C with
   | nil=>simp
   | cons k' C ih2=>
    simp only[List.map_cons,List.sum_cons];have:((l.filter fun a=>¬c a=k).filter fun a=>c a=k').length≤(l.filter fun a=>c a=k').length:=by
     rw[List.filter_filter];have h5:(l.filter fun a=>(decide (c a=k')&&decide (¬c a=k)))=(l.filter fun a=>decide (c a=k')).filter fun a=>decide (¬c a=k):=by
      rw[List.filter_filter];congr 1;funext a;rw[Bool.and_comm]
     rw[h5];exact List.length_filter_le _ _
    omega
  simp only[List.map_cons,List.sum_cons];omega
open Classical in
noncomputable def bits{α:Type}(P:α→Prop):List α→Nat
 | []=>0
 | n::L=>(if P n then 1 else 0)+2*bits P L
theorem bits_lt{α:Type}(P:α→Prop):∀L,bits P L<2 ^ L.length
 | []=>by simp[bits]
 | n::L=>by
  have:=bits_lt P L;simp only[bits,List.length_cons,Nat.pow_succ];split<;>omega
theorem bits_eq{α:Type}{P Q:α→Prop}:∀{L:List α},bits P L=bits Q L→∀n∈L,(P n↔Q n)
 | [],_,n,h=>absurd h List.not_mem_nil
 | k::L,e,n,h=>by
  simp only[bits] at e;have h1:(P k↔Q k)∧bits P L=bits Q L:=by
   by_cases hp:P k<;>by_cases hq:Q k<;>simp[hp,hq] at e ⊢<;>omega
  rcases List.mem_cons.1 h with rfl | h
  ·exact h1.1
  ·exact bits_eq h1.2 n h
theorem bits_pos{α:Type}{P:α→Prop}:∀{L:List α} {n:α},n∈L→P n→0<bits P L
 | k::L,n,h,hp=>by
  simp only[bits];rcases List.mem_cons.1 h with rfl | h
  ·rw[if_pos hp];omega
  ·have:=bits_pos h hp;omega
end Bd
set_option linter.unusedVariables false
namespace Bd
structure Okr(R:List Ru):Prop where
 left:∀r∈R,r.1<4
 sym:∀r∈R,∀s∈r.2,s<7
 len:∀r∈R,r.2.length≤3
 few:R.length≤8
section
variable {R:List Ru}{s0:Nat}(ok:Okr R)
include ok
theorem mem_Lf{p l:List Nat}{r:Ru}(h:r∈R)(e:r.2=p++l):r.1∈Lf R p:=by
 unfold Lf;rw[List.mem_filter,List.mem_range];refine⟨ok.left r h,?_⟩;rw[List.any_eq_true];exact⟨r,h,by rw[e];simp⟩
omit ok in
theorem Lf_sub{p q:List Nat}{n:Nat}(h:n∈Lf R (p++q)):n∈Lf R p:=by
 unfold Lf at h ⊢;rw[List.mem_filter] at h ⊢;refine⟨h.1,?_⟩;have h2:=h.2;rw[List.any_eq_true] at h2 ⊢;obtain⟨r,hr,e⟩:=h2;refine⟨r,hr,?_⟩;simp only[Bool.and_eq_true,List.isPrefixOf_iff_prefix] at e ⊢;exact⟨e.1,(List.prefix_append p q).trans e.2⟩
omit ok in
theorem Lf_nodup(p:List Nat):(Lf R p).Nodup:=List.Pairwise.filter _ List.nodup_range
omit ok in
theorem Lf_lt{p:List Nat}{n:Nat}(h:n∈Lf R p):n<4:=by
 unfold Lf at h;rw[List.mem_filter,List.mem_range] at h;exact h.1
theorem same3{z y x:Nat}{u v:List Nat}(h2:∀n∈Lf R [z],(Pd R s0 (y::x::u) n↔Pd R s0 (y::x::v) n))
  (h1:∀n∈Lf R [y,z],(Pd R s0 (x::u) n↔Pd R s0 (x::v) n)) (h0:∀n∈Lf R [x,y,z],(Pd R s0 u n↔Pd R s0 v n)) :
  Same R s0 (z::y::x::u) (z::y::x::v):=by
 intro r hr;refine⟨⟨fun ⟨⟨l,e⟩,h⟩=>⟨⟨l,e⟩,(h2 _ (mem_Lf ok hr (p:=[z]) e)).1 h⟩,fun ⟨⟨l,e⟩,h⟩=>⟨⟨l,e⟩,(h2 _ (mem_Lf ok hr (p:=[z]) e)).2 h⟩⟩,
  ⟨fun ⟨⟨l,e⟩,h⟩=>⟨⟨l,e⟩,(h1 _ (mem_Lf ok hr (p:=[y,z]) e)).1 h⟩,fun ⟨⟨l,e⟩,h⟩=>⟨⟨l,e⟩,(h1 _ (mem_Lf ok hr (p:=[y,z]) e)).2 h⟩⟩,
  ⟨fun ⟨⟨l,e⟩,h⟩=>⟨⟨l,e⟩,(h0 _ (mem_Lf ok hr (p:=[x,y,z]) e)).1 h⟩,fun ⟨⟨l,e⟩,h⟩=>⟨⟨l,e⟩,(h0 _ (mem_Lf ok hr (p:=[x,y,z]) e)).2 h⟩⟩⟩
theorem same2{z y:Nat}{u v:List Nat}(h2:∀n∈Lf R [z],(Pd R s0 (y::u) n↔Pd R s0 (y::v) n))
  (h1:∀n∈Lf R [y,z],(Pd R s0 u n↔Pd R s0 v n)) (hu:∀r∈R,¬I3 R s0 (z::y::u) r) (hv:∀r∈R,¬I3 R s0 (z::y::v) r) :
  Same R s0 (z::y::u) (z::y::v):=by
 intro r hr;refine⟨⟨fun ⟨⟨l,e⟩,h⟩=>⟨⟨l,e⟩,(h2 _ (mem_Lf ok hr (p:=[z]) e)).1 h⟩,fun ⟨⟨l,e⟩,h⟩=>⟨⟨l,e⟩,(h2 _ (mem_Lf ok hr (p:=[z]) e)).2 h⟩⟩,
  ⟨fun ⟨⟨l,e⟩,h⟩=>⟨⟨l,e⟩,(h1 _ (mem_Lf ok hr (p:=[y,z]) e)).1 h⟩,fun ⟨⟨l,e⟩,h⟩=>⟨⟨l,e⟩,(h1 _ (mem_Lf ok hr (p:=[y,z]) e)).2 h⟩⟩,
  ⟨fun h=>absurd h (hu r hr),fun h=>absurd h (hv r hr)⟩⟩
theorem same1{z:Nat}{u v:List Nat}(h2:∀n∈Lf R [z],(Pd R s0 u n↔Pd R s0 v n))(hu:∀r∈R,¬I3 R s0 (z::u) r)
  (hv:∀r∈R,¬I3 R s0 (z::v) r) (hu2:∀r∈R,¬I2 R s0 (z::u) r) (hv2:∀r∈R,¬I2 R s0 (z::v) r) :
  Same R s0 (z::u) (z::v):=by
 intro r hr;refine⟨⟨fun ⟨⟨l,e⟩,h⟩=>⟨⟨l,e⟩,(h2 _ (mem_Lf ok hr (p:=[z]) e)).1 h⟩,fun ⟨⟨l,e⟩,h⟩=>⟨⟨l,e⟩,(h2 _ (mem_Lf ok hr (p:=[z]) e)).2 h⟩⟩,
  ⟨fun h=>absurd h (hu2 r hr),fun h=>absurd h (hv2 r hr)⟩,⟨fun h=>absurd h (hu r hr),fun h=>absurd h (hv r hr)⟩⟩
theorem pd_of{y x:Nat}{u v:List Nat}(h1:∀n∈Lf R [y],Pd R s0 (x::u) n→Pd R s0 (x::v) n)
  (h0:∀n∈Lf R [x,y],Pd R s0 u n→Pd R s0 v n):∀m,Pd R s0 (y::x::u) m→Pd R s0 (y::x::v) m:=by
 intro m h;generalize e:y::x::u=W at h
 induction h with
 | start=>cases e
 | one hr e2 hp _=>
  simp only[List.cons.injEq] at e;obtain⟨rfl,rfl⟩:=e;exact .one hr e2 (h1 _ (mem_Lf ok hr (p:=[y]) e2) hp)
 | two hr e2 hp _=>
  simp only[List.cons.injEq] at e;obtain⟨rfl,rfl,rfl⟩:=e;exact .two hr e2 (h0 _ (mem_Lf ok hr (p:=[x,y]) e2) hp)
 | clo hp hr e2 ih=>exact .clo (ih e) hr e2
theorem pd_iff{y x:Nat}{u v:List Nat}(h1:∀n∈Lf R [y],(Pd R s0 (x::u) n↔Pd R s0 (x::v) n))
  (h0:∀n∈Lf R [x,y],(Pd R s0 u n↔Pd R s0 v n)) (m:Nat):Pd R s0 (y::x::u) m↔Pd R s0 (y::x::v) m:=
 ⟨pd_of ok (fun n hn=>(h1 n hn).1) (fun n hn=>(h0 n hn).1) m,pd_of ok (fun n hn=>(h1 n hn).2) (fun n hn=>(h0 n hn).2) m⟩
end
open Classical in
noncomputable def age(R:List Ru)(s0:Nat)(w:List Nat):Nat:=
 if ∃r∈R,I3 R s0 w r then 3 else if ∃r∈R,I2 R s0 w r then 2 else 1
noncomputable def ctx(R:List Ru)(s0:Nat)(w:List Nat):List Nat:=w.take (age R s0 w)
def Live(R:List Ru)(s0:Nat)(w:List Nat):Prop:=∃r∈R,I1 R s0 w r∨I2 R s0 w r∨I3 R s0 w r
def all1:List (List Nat):=(List.range 7).map fun z=>[z]
def all2:List (List Nat):=(List.range 7).flatMap fun y=>(List.range 7).map fun z=>[z,y]
def all3:List (List Nat):=(List.range 7).flatMap fun x=>(List.range 7).flatMap fun y=>(List.range 7).map fun z=>[z,y,x]
def allC:List (List Nat):=all1++(all2++all3)
section
variable {R:List Ru}{s0:Nat}
theorem age3{w:List Nat}:age R s0 w=3↔∃r∈R,I3 R s0 w r:=by
 unfold age;by_cases h:∃r∈R,I3 R s0 w r
 ·rw[if_pos h];exact⟨fun _=>h,fun _=>rfl⟩
 ·rw[if_neg h];refine⟨fun e=>?_,fun h2=>absurd h2 h⟩;split at e<;>cases e
theorem age2{w:List Nat}:age R s0 w=2↔(¬∃r∈R,I3 R s0 w r)∧∃r∈R,I2 R s0 w r:=by
 unfold age;by_cases h:∃r∈R,I3 R s0 w r
 ·rw[if_pos h];exact⟨fun e=>(by cases e),fun h2=>absurd h h2.1⟩
 ·rw[if_neg h];by_cases h2:∃r∈R,I2 R s0 w r
  ·rw[if_pos h2];exact⟨fun _=>⟨h,h2⟩,fun _=>rfl⟩
  ·rw[if_neg h2];exact⟨fun e=>(by cases e),fun h3=>absurd h3.2 h2⟩
theorem age1{w:List Nat}:age R s0 w=1↔(¬∃r∈R,I3 R s0 w r)∧¬∃r∈R,I2 R s0 w r:=by
 unfold age;by_cases h:∃r∈R,I3 R s0 w r
 ·rw[if_pos h];exact⟨fun e=>(by cases e),fun h2=>absurd h h2.1⟩
 ·rw[if_neg h];by_cases h2:∃r∈R,I2 R s0 w r
  ·rw[if_pos h2];exact⟨fun e=>(by cases e),fun h3=>absurd h2 h3.2⟩
  ·rw[if_neg h2];exact⟨fun _=>⟨h,h2⟩,fun _=>rfl⟩
theorem age_cases(w:List Nat):age R s0 w=1∨age R s0 w=2∨age R s0 w=3:=by
 unfold age;split
 ·exact .inr (.inr rfl)
 ·split
  ·exact .inr (.inl rfl)
  ·exact .inl rfl
theorem ctx_mem(ok:Okr R){w:List Nat}(h:Live R s0 w):ctx R s0 w∈allC:=by
 unfold ctx allC;rcases age_cases (R:=R) (s0:=s0) w with e | e | e
 ·rw[e];obtain⟨h3,h2⟩:=age1.1 e;obtain⟨r,hr,h | h | h⟩:=h
  ·match w,h with
   | z::w,⟨⟨l,e⟩,_⟩=>
    refine List.mem_append_left _ (List.mem_map.2 ⟨z,List.mem_range.2 (ok.sym r hr z (by rw[e];simp)),by simp⟩)
  ·exact absurd ⟨r,hr,h⟩ h2
  ·exact absurd ⟨r,hr,h⟩ h3
 ·rw[e];obtain⟨_,r,hr,h⟩:=age2.1 e
  match w,h with
  | z::y::w,⟨⟨l,e⟩,_⟩=>
   refine List.mem_append_right _ (List.mem_append_left _ (List.mem_flatMap.2 ⟨y,List.mem_range.2 (ok.sym r hr y (by rw[e];simp)),
    List.mem_map.2 ⟨z,List.mem_range.2 (ok.sym r hr z (by rw[e];simp)),by simp⟩⟩))
 ·rw[e];obtain⟨r,hr,h⟩:=age3.1 e
  match w,h with
  | z::y::x::w,⟨⟨l,e⟩,_⟩=>
   refine List.mem_append_right _ (List.mem_append_right _ (List.mem_flatMap.2 ⟨x,List.mem_range.2 (ok.sym r hr x (by rw[e];simp)),
    List.mem_flatMap.2 ⟨y,List.mem_range.2 (ok.sym r hr y (by rw[e];simp)),List.mem_map.2 ⟨z,List.mem_range.2 (ok.sym r hr z (by rw[e];simp)),by simp⟩⟩⟩))
noncomputable def inC(R:List Ru)(s0:Nat)(ws:List (List Nat))(c:List Nat):List (List Nat):=ws.filter fun w=>ctx R s0 w=c
theorem split_all(ok:Okr R){ws:List (List Nat)}(h:∀w∈ws,Live R s0 w) :
  ws.length≤(allC.map fun c=>(inC R s0 ws c).length).sum:=parts (ctx R s0) allC ws fun w hw=>ctx_mem ok (h w hw)
theorem ctx_one{w:List Nat}{z:Nat}(h:Live R s0 w)(e:ctx R s0 w=[z]):(∃u,w=z::u)∧(∀r∈R,¬I3 R s0 w r)∧(∀r∈R,¬I2 R s0 w r)∧∃r∈R,I1 R s0 w r:=by
 unfold ctx at e;rcases age_cases (R:=R) (s0:=s0) w with a | a | a
 ·rw[a] at e;obtain⟨h3,h2⟩:=age1.1 a;have h3:∀r∈R,¬I3 R s0 w r:=fun r hr hi=>h3 ⟨r,hr,hi⟩;have h2:∀r∈R,¬I2 R s0 w r:=fun r hr hi=>h2 ⟨r,hr,hi⟩;obtain⟨r,hr,hi | hi | hi⟩:=h
  ·match w,e with
   | z'::u,e=>simp at e;subst e;exact⟨⟨u,rfl⟩,h3,h2,r,hr,hi⟩
  ·exact absurd hi (h2 r hr)
  ·exact absurd hi (h3 r hr)
 ·rw[a] at e;obtain⟨_,r,hr,hi⟩:=age2.1 a
  match w,hi with
  | z::y::u,_=>simp at e
 ·rw[a] at e;obtain⟨r,hr,hi⟩:=age3.1 a
  match w,hi with
  | z::y::x::u,_=>simp at e
theorem ctx_two{w:List Nat}{z y:Nat}(h:Live R s0 w)(e:ctx R s0 w=[z,y]):(∃u,w=z::y::u)∧(∀r∈R,¬I3 R s0 w r)∧∃r∈R,I2 R s0 w r:=by
 unfold ctx at e;rcases age_cases (R:=R) (s0:=s0) w with a | a | a
 ·rw[a] at e
  match w,e with
  | [],e=>simp at e
  | z'::u,e=>simp at e
 ·rw[a] at e;obtain⟨h3,r,hr,hi⟩:=age2.1 a
  match w,hi with
  | z'::y'::u,hi=>simp at e;obtain⟨rfl,rfl⟩:=e;exact⟨⟨u,rfl⟩,fun r hr hi=>h3 ⟨r,hr,hi⟩,r,hr,hi⟩
 ·rw[a] at e;obtain⟨r,hr,hi⟩:=age3.1 a
  match w,hi with
  | z::y::x::u,_=>simp at e
theorem ctx_three{w:List Nat}{z y x:Nat}(e:ctx R s0 w=[z,y,x]):(∃u,w=z::y::x::u)∧∃r∈R,I3 R s0 w r:=by
 unfold ctx at e;rcases age_cases (R:=R) (s0:=s0) w with a | a | a
 ·rw[a] at e
  match w,e with
  | [],e=>simp at e
  | z'::u,e=>simp at e
 ·rw[a] at e
  match w,e with
  | [],e=>simp at e
  | [z'],e=>simp at e
  | z'::y'::u,e=>simp at e
 ·rw[a] at e;obtain⟨r,hr,hi⟩:=age3.1 a
  match w,hi with
  | z'::y'::x'::u,hi=>simp at e;obtain⟨rfl,rfl,rfl⟩:=e;exact⟨⟨u,rfl⟩,r,hr,hi⟩
end
end Bd
set_option linter.unusedVariables false
namespace Bd
theorem pair_inj{a b c d N:Nat}(hb:b<N)(hd:d<N)(e:a*N+b=c*N+d):a=c∧b=d:=by
 have h1:(a*N+b) / N=a:=by rw[Nat.add_comm,Nat.add_mul_div_right _ _ zo,Nat.div_eq_of_lt hb];omega
 have h2:(c*N+d) / N=c:=by rw[Nat.add_comm,Nat.add_mul_div_right _ _ zo,Nat.div_eq_of_lt hd];omega
 have h3:a=c:=by rw[←h1,←h2,e]
 subst h3;exact⟨rfl,by omega⟩
theorem pair_lt{a b A N:Nat}(ha:a<A)(hb:b<N):a*N+b<A*N:=by
 have:(a+1)*N≤A*N:=Nat.mul_le_mul_right _ ha;rw[Nat.add_mul,Nat.one_mul] at this;omega
section
variable {R:List Ru}{s0:Nat}{ws:List (List Nat)}
structure bGood(R:List Ru)(s0:Nat)(ws:List (List Nat)):Prop where
 ok:Okr R
 live:∀w∈ws,Live R s0 w
 diff:ws.Pairwise fun a b=>¬Same R s0 a b
theorem mem_inC{c w:List Nat}:w∈inC R s0 ws c↔w∈ws∧ctx R s0 w=c:=by
 unfold inC;rw[List.mem_filter];simp
theorem bGood.count1(G:bGood R s0 ws){z N:Nat}(f:List Nat→Nat)
  (hN:∀u,(∃r∈R,I1 R s0 (z::u) r)→f u<N) (hf:∀u v,(∃r∈R,I1 R s0 (z::u) r)→(∃r∈R,I1 R s0 (z::v) r)→f u=f v→∀n∈Lf R [z],(Pd R s0 u n↔Pd R s0 v n)) :
  (inC R s0 ws [z]).length≤N:=by
 refine bcount (P:=Same R s0) (fun w=>f w.tail) N _ (List.Pairwise.filter _ G.diff) (fun w hw=>?_) (fun a ha b hb e=>?_)
 ·obtain⟨h1,h2⟩:=mem_inC.1 hw;obtain⟨⟨u,rfl⟩,_,_,h3⟩:=ctx_one (G.live _ h1) h2;exact hN u h3
 ·obtain⟨h1,h2⟩:=mem_inC.1 ha;obtain⟨⟨u,rfl⟩,a3,a2,a1⟩:=ctx_one (G.live _ h1) h2;obtain⟨k1,k2⟩:=mem_inC.1 hb;obtain⟨⟨v,rfl⟩,b3,b2,b1⟩:=ctx_one (G.live _ k1) k2;exact same1 G.ok (hf u v a1 b1 e) a3 b3 a2 b2
theorem bGood.count2(G:bGood R s0 ws){z y N:Nat}(f:List Nat→Nat)
  (hN:∀u,(∃r∈R,I2 R s0 (z::y::u) r)→f u<N)
  (hf:∀u v,(∃r∈R,I2 R s0 (z::y::u) r)→(∃r∈R,I2 R s0 (z::y::v) r)→f u=f v→
   (∀n∈Lf R [z],(Pd R s0 (y::u) n↔Pd R s0 (y::v) n))∧∀n∈Lf R [y,z],(Pd R s0 u n↔Pd R s0 v n)) :
  (inC R s0 ws [z,y]).length≤N:=by
 refine bcount (P:=Same R s0) (fun w=>f w.tail.tail) N _ (List.Pairwise.filter _ G.diff) (fun w hw=>?_) (fun a ha b hb e=>?_)
 ·obtain⟨h1,h2⟩:=mem_inC.1 hw;obtain⟨⟨u,rfl⟩,_,h3⟩:=ctx_two (G.live _ h1) h2;exact hN u h3
 ·obtain⟨h1,h2⟩:=mem_inC.1 ha;obtain⟨⟨u,rfl⟩,a3,a2⟩:=ctx_two (G.live _ h1) h2;obtain⟨k1,k2⟩:=mem_inC.1 hb;obtain⟨⟨v,rfl⟩,b3,b2⟩:=ctx_two (G.live _ k1) k2;obtain⟨e1,e2⟩:=hf u v a2 b2 e;exact same2 G.ok e1 e2 a3 b3
theorem bGood.count3(G:bGood R s0 ws){z y x N:Nat}(f:List Nat→Nat)
  (hN:∀u,(∃r∈R,I3 R s0 (z::y::x::u) r)→f u<N)
  (hf:∀u v,(∃r∈R,I3 R s0 (z::y::x::u) r)→(∃r∈R,I3 R s0 (z::y::x::v) r)→f u=f v→
   (∀n∈Lf R [z],(Pd R s0 (y::x::u) n↔Pd R s0 (y::x::v) n))∧(∀n∈Lf R [y,z],(Pd R s0 (x::u) n↔Pd R s0 (x::v) n))∧
    ∀n∈Lf R [x,y,z],(Pd R s0 u n↔Pd R s0 v n)) :
  (inC R s0 ws [z,y,x]).length≤N:=by
 refine bcount (P:=Same R s0) (fun w=>f w.tail.tail.tail) N _ (List.Pairwise.filter _ G.diff) (fun w hw=>?_) (fun a ha b hb e=>?_)
 ·obtain⟨h1,h2⟩:=mem_inC.1 hw;obtain⟨⟨u,rfl⟩,h3⟩:=ctx_three h2;exact hN u h3
 ·obtain⟨h1,h2⟩:=mem_inC.1 ha;obtain⟨⟨u,rfl⟩,a3⟩:=ctx_three h2;obtain⟨k1,k2⟩:=mem_inC.1 hb;obtain⟨⟨v,rfl⟩,b3⟩:=ctx_three k2;obtain⟨e1,e2,e3⟩:=hf u v a3 b3 e;exact same3 G.ok e1 e2 e3
def Mv(R:List Ru)(s0 z:Nat)(w:List Nat):Prop:=∀m,z=3+m→Pd R s0 w m
def Ne(R:List Ru)(s0:Nat)(L:List Nat)(w:List Nat):Prop:=∃n∈L,Pd R s0 w n
def Cod(R:List Ru)(s0:Nat)(Q:List Nat→Prop)(L:List Nat)(K:Nat):Prop:=
 ∃c:List Nat→Nat,(∀w,Q w→c w<K)∧∀w w',Q w→Q w'→c w=c w'→∀n∈L,(Pd R s0 w n↔Pd R s0 w' n)
theorem Cod.mono{Q:List Nat→Prop}{L:List Nat}{K J:Nat}(h:Cod R s0 Q L K)(hk:K≤J):Cod R s0 Q L J:=by
 obtain⟨c,h1,h2⟩:=h;exact⟨c,fun w hw=>Nat.lt_of_lt_of_le (h1 w hw) hk,h2⟩
theorem Cod.inf{Q:List Nat→Prop}{L:List Nat}{K J:Nat}(h:Cod R s0 Q L K)(h':Cod R s0 Q L J):Cod R s0 Q L (min K J):=by
 rcases Nat.le_total K J with e | e
 ·rw[Nat.min_eq_left e];exact h
 ·rw[Nat.min_eq_right e];exact h'
theorem cod_pow(Q:List Nat→Prop)(L:List Nat):Cod R s0 Q L (2 ^ L.length):=
 ⟨fun w=>bits (Pd R s0 w) L,fun w _=>bits_lt _ _,fun w w' _ _ e=>bits_eq e⟩
theorem codE_pow{Q:List Nat→Prop}{L:List Nat}(h:∀w,Q w→Ne R s0 L w):Cod R s0 Q L (2 ^ L.length-1):=
 ⟨fun w=>bits (Pd R s0 w) L-1,
  fun w hw=>by obtain⟨n,h1,h2⟩:=h w hw;have:=bits_lt (Pd R s0 w) L;have:=bits_pos h1 h2;simp only[];omega,
  fun w w' hw hw' e=>bits_eq (by
   simp only[] at e;obtain⟨n,h1,h2⟩:=h w hw;obtain⟨m,h3,h4⟩:=h w' hw';have:=bits_pos h1 h2;have:=bits_pos h3 h4;omega)⟩
theorem codM_pow{Q:List Nat→Prop}{L M:List Nat}(hM:M.Nodup)(hL:L.Nodup)(hs:∀n∈M,n∈L)(h:∀w,Q w→Ne R s0 M w) :
  Cod R s0 Q L ((2 ^ M.length-1)*2 ^ (L.length-M.length)):=by
 have hlen:(L.filter fun n=>n∉M).length=L.length-M.length:=by
  have h1:=List.length_eq_countP_add_countP (fun n=>decide (n∈M)) (l:=L);rw[List.countP_eq_length_filter,List.countP_eq_length_filter] at h1;have h2:(L.filter fun n=>decide (n∈M)).length=M.length:=by
   apply List.Perm.length_eq;apply (List.perm_ext_iff_of_nodup (List.Pairwise.filter _ hL) hM).2;intro a;rw[List.mem_filter];simp only[decide_eq_true_eq];exact⟨fun h=>h.2,fun h=>⟨hs a h,h⟩⟩
  simp only[decide_not,Bool.decide_eq_true] at h1 ⊢;omega
 have hb:∀w,bits (Pd R s0 w) (L.filter fun n=>n∉M)<2 ^ (L.length-M.length):=fun w=>by
  rw[←hlen];exact bits_lt _ _
 refine⟨fun w=>(bits (Pd R s0 w) M-1)*2 ^ (L.length-M.length)+bits (Pd R s0 w) (L.filter fun n=>n∉M),fun w hw=>?_,fun w w' hw hw' e k hk=>?_⟩
 ·obtain⟨n,h1,h2⟩:=h w hw;refine pair_lt ?_ (hb w);have:=bits_lt (Pd R s0 w) M;have:=bits_pos h1 h2;omega
 ·obtain⟨n,h1,h2⟩:=h w hw;obtain⟨m,h3,h4⟩:=h w' hw';obtain⟨e1,e2⟩:=pair_inj (hb w) (hb w') e;by_cases hkM:k∈M
  ·exact bits_eq (by have:=bits_pos h1 h2;have:=bits_pos h3 h4;omega) k hkM
  ·exact bits_eq e2 k (by rw[List.mem_filter];exact⟨hk,by simpa using hkM⟩)
theorem mv1{z:Nat}{u:List Nat}{r:Ru}(hr:r∈R)(h:I1 R s0 (z::u) r):Mv R s0 z u:=by
 obtain⟨⟨l,e⟩,hp⟩:=h;rintro m rfl;exact .clo hp hr e
theorem mv2{z y:Nat}{u:List Nat}{r:Ru}(hr:r∈R)(h:I2 R s0 (z::y::u) r):Mv R s0 z (y::u)∧Mv R s0 y u:=by
 obtain⟨⟨l,e⟩,hp⟩:=h;exact⟨by rintro m rfl;exact .one hr e hp,by rintro m rfl;exact .clo hp hr e⟩
theorem mv3{z y x:Nat}{u:List Nat}{r:Ru}(hr:r∈R)(h:I3 R s0 (z::y::x::u) r) :
  Mv R s0 z (y::x::u)∧Mv R s0 y (x::u)∧Mv R s0 x u:=by
 obtain⟨⟨l,e⟩,hp⟩:=h;exact⟨by rintro m rfl;exact .two hr e hp,by rintro m rfl;exact .one hr e hp,by rintro m rfl;exact .clo hp hr e⟩
def QE(R:List Ru)(s0 z:Nat)(L:List Nat)(w:List Nat):Prop:=Mv R s0 z w∧Ne R s0 L w
def QV(R:List Ru)(s0 z y:Nat)(w:List Nat):Prop:=Mv R s0 z w∧∃u,w=y::u
theorem bGood.n1(G:bGood R s0 ws){z K:Nat}(h:Cod R s0 (QE R s0 z (Lf R [z])) (Lf R [z]) K):(inC R s0 ws [z]).length≤K:=by
 obtain⟨c,h1,h2⟩:=h;have key:∀u,(∃r∈R,I1 R s0 (z::u) r)→QE R s0 z (Lf R [z]) u:=by
  rintro u ⟨r,hr,hi⟩;refine⟨mv1 hr hi,?_⟩;obtain⟨⟨l,e⟩,hp⟩:=hi;exact⟨r.1,mem_Lf G.ok hr (p:=[z]) e,hp⟩
 exact G.count1 c (fun u hu=>h1 u (key u hu)) (fun u v hu hv e=>h2 u v (key u hu) (key v hv) e)
theorem bGood.n2(G:bGood R s0 ws){z y K J:Nat}(h:Cod R s0 (QE R s0 y (Lf R [y,z])) (Lf R [y,z]) K)(h':Cod R s0 (QV R s0 z y) (Lf R [z]) J) :
  (inC R s0 ws [z,y]).length≤K*J:=by
 obtain⟨c,c1,c2⟩:=h;obtain⟨d,d1,d2⟩:=h';have k1:∀u,(∃r∈R,I2 R s0 (z::y::u) r)→QE R s0 y (Lf R [y,z]) u:=by
  rintro u ⟨r,hr,hi⟩;refine⟨(mv2 hr hi).2,?_⟩;obtain⟨⟨l,e⟩,hp⟩:=hi;exact⟨r.1,mem_Lf G.ok hr (p:=[y,z]) e,hp⟩
 have k2:∀u,(∃r∈R,I2 R s0 (z::y::u) r)→QV R s0 z y (y::u):=by
  rintro u ⟨r,hr,hi⟩;exact⟨(mv2 hr hi).1,u,rfl⟩
 refine G.count2 (fun u=>c u*J+d (y::u)) (fun u hu=>pair_lt (c1 u (k1 u hu)) (d1 _ (k2 u hu))) (fun u v hu hv e=>?_);obtain⟨e1,e2⟩:=pair_inj (d1 _ (k2 u hu)) (d1 _ (k2 v hv)) e;exact⟨d2 _ _ (k2 u hu) (k2 v hv) e2,c2 u v (k1 u hu) (k1 v hv) e1⟩
theorem key3(ok:Okr R){z y x:Nat}{u:List Nat}(h:∃r∈R,I3 R s0 (z::y::x::u) r) :
  QE R s0 x (Lf R [x,y,z]) u∧QV R s0 y x (x::u)∧QV R s0 z y (y::x::u):=by
 obtain⟨r,hr,hi⟩:=h;obtain⟨m1,m2,m3⟩:=mv3 hr hi;refine⟨⟨m3,?_⟩,⟨m2,u,rfl⟩,⟨m1,_,rfl⟩⟩;obtain⟨⟨l,e⟩,hp⟩:=hi;exact⟨r.1,mem_Lf ok hr (p:=[x,y,z]) e,hp⟩
theorem bGood.n3(G:bGood R s0 ws){z y x K J I:Nat}(h:Cod R s0 (QE R s0 x (Lf R [x,y,z])) (Lf R [x,y,z]) K)
  (h1:Cod R s0 (QV R s0 y x) (Lf R [y,z]) J) (h2:Cod R s0 (QV R s0 z y) (Lf R [z]) I):(inC R s0 ws [z,y,x]).length≤K*J*I:=by
 obtain⟨c,c1,c2⟩:=h;obtain⟨d,d1,d2⟩:=h1;obtain⟨f,f1,f2⟩:=h2;refine G.count3 (fun u=>(c u*J+d (x::u))*I+f (y::x::u))
  (fun u hu=>pair_lt (pair_lt (c1 u (key3 G.ok hu).1) (d1 _ (key3 G.ok hu).2.1)) (f1 _ (key3 G.ok hu).2.2)) (fun u v hu hv e=>?_)
 have ku:=key3 G.ok hu;have kv:=key3 G.ok hv;obtain⟨e1,e2⟩:=pair_inj (f1 _ ku.2.2) (f1 _ kv.2.2) e;obtain⟨e3,e4⟩:=pair_inj (d1 _ ku.2.1) (d1 _ kv.2.1) e1;exact⟨f2 _ _ ku.2.2 kv.2.2 e2,d2 _ _ ku.2.1 kv.2.1 e4,c2 _ _ ku.1 kv.1 e3⟩
theorem bGood.h3(G:bGood R s0 ws){z y x K J:Nat}(h:Cod R s0 (QE R s0 x (Lf R [x,y,z])) (Lf R [x,y]) K)
  (h1:Cod R s0 (QV R s0 y x) (Lf R [y]) J):(inC R s0 ws [z,y,x]).length≤K*J:=by
 obtain⟨c,c1,c2⟩:=h;obtain⟨d,d1,d2⟩:=h1;refine G.count3 (fun u=>c u*J+d (x::u)) (fun u hu=>pair_lt (c1 u (key3 G.ok hu).1) (d1 _ (key3 G.ok hu).2.1)) (fun u v hu hv e=>?_);have ku:=key3 G.ok hu;have kv:=key3 G.ok hv;obtain⟨e1,e2⟩:=pair_inj (d1 _ ku.2.1) (d1 _ kv.2.1) e;have a0:=c2 _ _ ku.1 kv.1 e1;have a1:=d2 _ _ ku.2.1 kv.2.1 e2;exact⟨fun n _=>pd_iff G.ok a1 a0 n,fun n hn=>a1 n (Lf_sub (p:=[y]) (q:=[z]) hn),fun n hn=>a0 n (Lf_sub (p:=[x,y]) (q:=[z]) hn)⟩
end
end Bd
set_option linter.unusedVariables false
namespace Bd
def sm(f:Nat→Nat):Nat:=f 0+f 1+f 2+f 3+f 4+f 5+f 6
theorem sm_le{f g:Nat→Nat}(h:∀i,i<7→f i≤g i):sm f≤sm g:=by
 have h0:=h 0 zo;have h1:=h 1 zo;have h2:=h 2 zo;have h3:=h 3 zo;have h4:=h 4 zo;have h5:=h 5 zo;have h6:=h 6 zo;simp only[sm];omega
theorem sm_add(f g:Nat→Nat):sm (fun i=>f i+g i)=sm f+sm g:=by simp only[sm];omega
theorem sm_mul(f:Nat→Nat)(c:Nat):sm (fun i=>f i*c)=sm f*c:=by simp only[sm,Nat.add_mul]
theorem sum_range7(f:Nat→Nat):((List.range 7).map f).sum=sm f:=by
 have:List.range 7=[0,1,2,3,4,5,6]:=rfl;rw[this];simp only[List.map_cons,List.map_nil,List.sum_cons,List.sum_nil,sm];omega
theorem sum_flat7(F:Nat→List (List Nat))(g:List Nat→Nat):(((List.range 7).flatMap F).map g).sum=sm fun x=>((F x).map g).sum:=by
 have:List.range 7=[0,1,2,3,4,5,6]:=rfl;rw[this];simp only[List.flatMap_cons,List.flatMap_nil,List.map_append,List.map_nil,List.sum_append,List.sum_nil,sm];omega
theorem sum_allC(g:List Nat→Nat):(allC.map g).sum =
  sm (fun z=>g [z])+(sm (fun y=>sm fun z=>g [z,y])+sm fun x=>sm fun y=>sm fun z=>g [z,y,x]):=by
 unfold allC all1 all2 all3;rw[List.map_append,List.sum_append,List.map_append,List.sum_append,List.map_map,sum_range7,sum_flat7,sum_flat7];simp only[List.map_map,sum_range7,sum_flat7,Function.comp_def]
def cn(R:List Ru)(p:List Nat):Nat:=R.countP fun r=>p.isPrefixOf r.2
theorem Lf_le(R:List Ru)(p:List Nat):(Lf R p).length≤cn R p:=by
 have h:∀n∈Lf R p,n∈(R.filter fun r=>p.isPrefixOf r.2).map (·.1):=by
  intro n hn;unfold Lf at hn;rw[List.mem_filter,List.any_eq_true] at hn;obtain⟨_,r,hr,e⟩:=hn;simp only[Bool.and_eq_true,beq_iff_eq] at e;exact List.mem_map.2 ⟨r,List.mem_filter.2 ⟨hr,e.2⟩,e.1⟩
 have h1:=List.Nodup.length_le_of_subset (Lf_nodup (R:=R) p) h;rw[List.length_map] at h1;unfold cn;rw[List.countP_eq_length_filter];exact h1
theorem Lf_le4(R:List Ru)(p:List Nat):(Lf R p).length≤4:=by
 have:=List.length_filter_le (fun n=>R.any fun r=>r.1==n&&p.isPrefixOf r.2) (List.range 4);rw[List.length_range] at this;exact this
theorem Lf_mono(R:List Ru)(p q:List Nat):(Lf R (p++q)).length≤(Lf R p).length:=
 List.Nodup.length_le_of_subset (Lf_nodup _) fun _ h=>Lf_sub h
theorem pre_split(p l:List Nat):sm (fun z=>if (p++[z]).isPrefixOf l then 1 else 0)≤if p.isPrefixOf l then 1 else 0:=by
 by_cases h:p.isPrefixOf l
 ·rw[if_pos h];rw[List.isPrefixOf_iff_prefix] at h;obtain⟨t,rfl⟩:=h;have e:∀z,(p++[z]).isPrefixOf (p++t)=[z].isPrefixOf t:=fun z=>by
   rw[Bool.eq_iff_iff,List.isPrefixOf_iff_prefix,List.isPrefixOf_iff_prefix,List.prefix_append_right_inj]
  simp only[e];cases t with
  | nil=>simp[sm]
  | cons a t=>
   simp only[List.isPrefixOf,Bool.and_true,beq_iff_eq];unfold sm;by_cases h0:0=a
   ·subst h0;simp
   ·by_cases h1:1=a
    ·subst h1;simp
    ·by_cases h2:2=a
     ·subst h2;simp
     ·by_cases h3:3=a
      ·subst h3;simp
      ·by_cases h4:4=a
       ·subst h4;simp
       ·by_cases h5:5=a
        ·subst h5;simp
        ·by_cases h6:6=a
         ·subst h6;simp
         ·simp[h0,h1,h2,h3,h4,h5,h6]
 ·rw[if_neg h];have e:∀z,¬(p++[z]).isPrefixOf l:=fun z hz=>h (by
   rw[List.isPrefixOf_iff_prefix] at hz ⊢;exact(List.prefix_append p [z]).trans hz)
  simp[e,sm]
theorem cn_sum(R:List Ru)(p:List Nat):sm (fun z=>cn R (p++[z]))≤cn R p:=by
 induction R with
 | nil=>simp[cn,sm]
 | cons r R ih=>
  have h:=pre_split p r.2;have e:∀q:List Nat,cn (r::R) q=cn R q+if q.isPrefixOf r.2 then 1 else 0:=fun q=>by
   unfold cn;rw[List.countP_cons]
  simp only[e,sm_add];omega
def btabF(n:Nat):Nat:=[0,2,7,19,23,27,38,42,46].getD n 0
def tabG(n:Nat):Nat:=[0,1,3,7,8,10,14,15,17].getD n 0
theorem sup_sm{F:Nat→Nat}(hs:∀x,x<9→∀y,y<9→x+y≤8→F x+F y≤F (x+y)){a:Nat→Nat}(h:sm a≤8):sm (fun i=>F (a i))≤F (sm a):=by
 simp only[sm] at h ⊢;have h1:=hs (a 0) zo (a 1) zo zo;have h2:=hs (a 0+a 1) zo (a 2) zo zo;have h3:=hs (a 0+a 1+a 2) zo (a 3) zo zo;have h4:=hs (a 0+a 1+a 2+a 3) zo (a 4) zo zo;have h5:=hs (a 0+a 1+a 2+a 3+a 4) zo (a 5) zo zo;have h6:=hs (a 0+a 1+a 2+a 3+a 4+a 5) zo (a 6) zo zo;omega
theorem tabF_sup:∀x,x<9→∀y,y<9→x+y≤8→btabF x+btabF y≤btabF (x+y):=by decide
theorem tabG_sup:∀x,x<9→∀y,y<9→x+y≤8→tabG x+tabG y≤tabG (x+y):=by decide
theorem tabF_mono:∀x,x<9→∀y,y<9→x≤y→btabF x≤btabF y:=by decide
theorem tabG_mono:∀x,x<9→∀y,y<9→x≤y→tabG x≤tabG y:=by decide
theorem tabG_pow:∀l,l<4→∀c,c<9→l≤c→2 ^ l-1≤tabG c:=by decide
theorem tabF_grp:∀b,b<4→∀s,s<9→b≤s→(2 ^ b-1)+2 ^ (b-1)*(if b=0 then 0 else s)≤btabF s:=by decide
theorem half:∀b,b<5→∀t,t<5→t≤b→(2 ^ t-1)*2 ^ (b-t)≤2 ^ (b-1)*t:=by decide
section
variable {R:List Ru}{s0:Nat}{ws:List (List Nat)}
theorem cn_le(h:Okr R)(p:List Nat):cn R p≤8:=Nat.le_trans List.countP_le_length h.few
theorem grp(G:bGood R s0 ws)(h3:∀z,(Lf R [z]).length≤3)(x y:Nat) :
  (inC R s0 ws [y,x]).length+sm (fun z=>(inC R s0 ws [z,y,x]).length)≤btabF (cn R [x,y])*8:=by
 have hb:(Lf R [x,y]).length≤3:=Nat.le_trans (Lf_mono R [x] [y]) (h3 x);have hp:2 ^ (Lf R [y]).length≤8:=by
  have:=Nat.pow_le_pow_right (n:=2) zo (h3 y);simpa using this
 have hs:=Lf_le R [x,y];have h8:=cn_le G.ok [x,y];have a2:(inC R s0 ws [y,x]).length≤(2 ^ (Lf R [x,y]).length-1)*8:=
  Nat.le_trans (G.n2 (codE_pow fun w h=>h.2) (cod_pow _ _)) (Nat.mul_le_mul_left _ hp)
 have a3:sm (fun z=>(inC R s0 ws [z,y,x]).length)≤2 ^ ((Lf R [x,y]).length-1)*(if (Lf R [x,y]).length=0 then 0 else cn R [x,y])*8:=by
  have e1:∀z,z<7→(inC R s0 ws [z,y,x]).length≤(if (Lf R [x,y]).length=0 then 0 else cn R ([x,y]++[z]))*(2 ^ ((Lf R [x,y]).length-1)*8):=by
   intro z _;have k:=G.h3 (codM_pow (Lf_nodup [x,y,z]) (Lf_nodup [x,y]) (fun n hn=>Lf_sub (p:=[x,y]) (q:=[z]) hn) (fun w h=>h.2)) (cod_pow _ (Lf R [y]));have m:(Lf R [x,y,z]).length≤(Lf R [x,y]).length:=Lf_mono R [x,y] [z];have t:=Lf_le R [x,y,z];have b4:=Lf_le4 R [x,y];have hh:=half (Lf R [x,y]).length zo (Lf R [x,y,z]).length zo m;by_cases e0:(Lf R [x,y]).length=0
   ·have:(Lf R [x,y,z]).length=0:=by omega
    rw[this,Nat.pow_zero,Nat.sub_self,Nat.zero_mul,Nat.zero_mul] at k;exact Nat.le_trans k (Nat.zero_le _)
   ·rw[if_neg e0];refine Nat.le_trans k ?_;refine Nat.le_trans (Nat.mul_le_mul hh hp) ?_;rw[Nat.mul_comm (2 ^ _) (Lf R [x,y,z]).length,Nat.mul_assoc];exact Nat.mul_le_mul_right _ t
  refine Nat.le_trans (sm_le e1) ?_;rw[sm_mul];by_cases e0:(Lf R [x,y]).length=0
  ·simp[e0,sm]
  ·simp only[if_neg e0];have:=cn_sum R [x,y];rw[Nat.mul_comm (2 ^ _) (cn R [x,y]),Nat.mul_assoc];exact Nat.mul_le_mul_right _ this
 have:=tabF_grp (Lf R [x,y]).length zo (cn R [x,y]) zo hs;have m2:=Nat.mul_le_mul_right 8 this;rw[Nat.add_mul] at m2;omega
theorem partI(G:bGood R s0 ws)(h3:∀z,(Lf R [z]).length≤3):ws.length≤385:=by
 have h:=split_all G.ok G.live;rw[sum_allC] at h;have c1:sm (fun x=>cn R [x])≤8:=Nat.le_trans (cn_sum R []) (cn_le G.ok []);have a1:sm (fun z=>(inC R s0 ws [z]).length)≤17:=by
  refine Nat.le_trans (sm_le (g:=fun z=>tabG (cn R [z])) fun z _=>?_) (Nat.le_trans (sup_sm tabG_sup c1) ?_)
  ·exact Nat.le_trans (G.n1 (codE_pow fun w h=>h.2)) (tabG_pow _ (Nat.lt_succ_of_le (h3 z)) _ (Nat.lt_succ_of_le (cn_le G.ok _)) (Lf_le R [z]))
  ·exact tabG_mono _ zo 8 zo c1
 have a2:sm (fun y=>sm fun z=>(inC R s0 ws [z,y]).length)+sm (fun x=>sm fun y=>sm fun z=>(inC R s0 ws [z,y,x]).length)≤46*8:=by
  rw[←sm_add];refine Nat.le_trans (sm_le (g:=fun x=>btabF (cn R [x])*8) fun x _=>?_) ?_
  ·rw[←sm_add];refine Nat.le_trans (sm_le (g:=fun y=>btabF (cn R [x,y])*8) fun y _=>grp G h3 x y) ?_;rw[sm_mul];have k:=cn_sum R [x];have k8:=cn_le G.ok [x];refine Nat.mul_le_mul_right _ (Nat.le_trans (sup_sm tabF_sup (a:=fun y=>cn R [x,y]) (Nat.le_trans k k8)) (tabF_mono _ ?_ _ ?_ k))
   ·exact Nat.lt_succ_of_le (Nat.le_trans k k8)
   ·exact Nat.lt_succ_of_le k8
  ·rw[sm_mul];exact Nat.mul_le_mul_right _ (Nat.le_trans (sup_sm tabF_sup c1) (tabF_mono _ zo 8 zo c1))
 omega
end
end Bd