/-
  Walks: what functions of the program do, over the abstract machine.
-/
import Derived.Test.YtebndojjghnhoaaGreatDoorWk0
import Derived.Sort.Walk13a
set_option linter.unusedVariables false
set_option maxRecDepth 20000
set_option maxHeartbeats 0
open Go Go.Abs Go.Proofs Go.Proofs.D
namespace Go.Proofs.D
instance:Inhabited Key:=⟨⟨⟨false,0⟩,0,0⟩⟩
def ltKey(x y:Key):Bool:=decide (x.frm<y.frm∨(x.frm=y.frm∧(x.to<y.to∨(x.to=y.to∧cmpSym x.sym y.sym<0))))
def cmpNats:List Nat→List Nat→Int
 | [],[]=>0
 | [],_::_=>-1
 | _::_,[]=>1
 | a::l,b::m=>if cmpInt a b=0 then cmpNats l m else cmpInt a b
structure NPack where
 rule:Nat
 kids:List Nat
deriving DecidableEq
def tNPack:Ty NPack where
 size:=2
 rel:=fun F l x=>∃a n c,l=[.int .i64 x.rule,.slice a n c]∧Arr tNat F a n c x.kids∧x.kids.length≤1000000
 len:=fun _ _ _ h=>by obtain⟨a,n,c,rfl,_⟩:=h;rfl
 one:=fun _ _ _ h=>by obtain⟨a,n,c,rfl,_⟩:=h;rfl
 mono:=fun _ _ _ _ hF h=>by obtain⟨a,n,c,e,h,hb⟩:=h;exact⟨a,n,c,e,h.mono hF,hb⟩
def cmpNPack(x y:NPack):Int:=orInt [cmpInt x.rule y.rule,cmpNats x.kids y.kids]
inductive Reachable(g:Gram)(w:List Nat)(E:List (List Nat))(root:Key):Key→Prop
 | root:Reachable g w E root root
 | kid {k q:Key} {p:KPack}:Reachable g w E root k→p∈packsOf g w E k→q∈p.kids→Reachable g w E root q
structure Node where
 key:Key
 packs:List NPack
def tNode:Ty Node where
 size:=5
 rel:=fun F l x=>∃a n c,l=[.bool x.key.sym.term,.int .i64 x.key.sym.n,.int .i64 x.key.frm,.int .i64 x.key.to,.slice a n c]∧Arr tNPack F a n c x.packs
 len:=fun _ _ _ h=>by obtain⟨a,n,c,rfl,_⟩:=h;rfl
 one:=fun _ _ _ h=>by obtain⟨a,n,c,rfl,_⟩:=h;rfl
 mono:=fun _ _ _ _ hF h=>by obtain⟨a,n,c,e,h⟩:=h;exact⟨a,n,c,e,h.mono hF⟩
def place(S:List Key)(k:Key):Nat:=S.idxOf k
def numPack(S:List Key)(p:KPack):NPack:=⟨p.rule,p.kids.map (place S)⟩
def mkNode(g:Gram)(w:List Nat)(E:List (List Nat))(S:List Key)(k:Key):Node:=⟨k,(packsOf g w E k).map (numPack S)⟩
structure Keys(g:Gram)(w:List Nat)(E:List (List Nat))(root:Key)(S:List Key):Prop where
 sorted:S.Pairwise (fun x y=>ltKey x y=true)
 reach:∀k∈S,Reachable g w E root k
 first:root∈S
 closed:∀k∈S,∀p∈packsOf g w E k,∀q∈p.kids,q∈S
theorem Keys.all{g:Gram}{w:List Nat}{E:List (List Nat)}{root:Key}{S:List Key}(h:Keys g w E root S){k:Key}(hk:Reachable g w E root k):k∈S:=by
 induction hk with
 | root=>exact h.first
 | kid _ hp hq ih=>exact h.closed _ ih _ hp _ hq
def packSum(g:Gram)(w:List Nat)(E:List (List Nat))(L:List Key):Nat:=(L.map fun k=>(packsOf g w E k).length).sum
structure IS where
 L:List Key
 a:Option Addr
 c:Nat
 B:List (Nat×Blk)
 se:Ents Key
structure KS where
 a:Option Addr
 n:Nat
 c:Nat
 B:List (Nat×Blk)
structure BS where
 i:Nat
 L:List Key
 a:Option Addr
 c:Nat
 B:List (Nat×Blk)
 pe:Ents Key
 se:Ents Key
 cnt:Nat
structure LInv(g:Gram)(w:List Nat)(E:List (List Nat))(root:Key)(L:List Key)(se:Ents Key):Prop where
 nd:L.Nodup
 first:root∈L
 reach:∀k∈L,Reachable g w E root k
 seen:∀k,Abs.look se k=if k∈L then some (.bool true) else none
structure BInv(g:Gram)(w:List Nat)(E:List (List Nat))(root:Key)(F:Frz)(s:BS):Prop where
 l:LInv g w E root s.L s.se
 packs:∀j k,j<s.i→s.L[j]?=some k→∃a n c,Abs.look s.pe k=some (.slice a n c)∧Arr tKPack F a n c (packsOf g w E k)
 closed:∀j k,j<s.i→s.L[j]?=some k→∀p∈packsOf g w E k,∀q∈p.kids,q∈s.L
 cnt:s.cnt=packSum g w E (s.L.take s.i)
 le:s.i≤s.L.length
theorem BInv.mono{g:Gram}{w:List Nat}{E:List (List Nat)}{root:Key}{F G:Frz}{s:BS}(h:BInv g w E root F s)(hF:Frz.le F G):BInv g w E root G s:=
 ⟨h.l,fun j k h1 h2=>by obtain⟨a,n,c,h3,h4⟩:=h.packs j k h1 h2;exact⟨a,n,c,h3,h4.mono hF⟩,h.closed,h.cnt,h.le⟩
def prodN:List Nat→Nat
 | []=>1
 | a::l=>a*prodN l
def leafN(x:Node):Nat:=if x.key.sym.term=true then 1 else 0
def packN(f:Nat→Nat)(p:NPack):Nat:=prodN (p.kids.map f)
def nodeT(Ns:List Node):Nat→Nat→Nat
 | 0,_=>0
 | d+1,v=>match Ns[v]? with
  | some x=>leafN x+(x.packs.map (packN (nodeT Ns d))).sum
  | none=>0
def Still(T:Nat→Nat)(c:Nat):Prop:=∃D,∀d,D≤d→T d=c
def Kid(Ns:List Node)(u v:Nat):Prop:=∃x p,Ns[v]?=some x∧p∈x.packs∧u∈p.kids
inductive Path(Ns:List Node):Nat→Nat→Prop
 | one {v u:Nat}:Kid Ns u v→Path Ns v u
 | step {v u z:Nat}:Path Ns v u→Kid Ns z u→Path Ns v z
theorem Path.trans{Ns:List Node}{a b c:Nat}(h:Path Ns a b)(h2:Path Ns b c):Path Ns a c:=by
 induction h2 with
 | one k=>exact .step h k
 | step _ k ih=>exact .step ih k
def Unbound(T:Nat→Nat):Prop:=∀B,∃d,B≤T d
section
variable {Ns:List Node}(hpr:∀v,v<Ns.length→∃d,1≤nodeT Ns d v)(hkid:∀u v,Kid Ns u v→u<Ns.length)
include hpr hkid
omit hkid in
end
def MAXC:Nat:=1000000000
def CountVal(T:Nat→Nat)(c:Int):Prop:=(∃n,Still T n∧c=(min n MAXC:Nat))∨(Unbound T∧c=-1)
structure CntC(F:Frz)(i1 i2 i3 i4 is ic cap:Nat)(na:Option Addr)(nn nc:Nat)(root:Int):Prop where
 st:F i1=some (.cells false [.slice (some ⟨is,0,none⟩) nn cap])
 f:F i2=some (.cells false [.slice na nn nc,.int .i64 root])
 ct:F i3=some (.cells false [.slice (some ⟨ic,0,none⟩) nn cap])
 self:F i4=some (.cells false [.func (.func 93) ⟨[]⟩ ⟨[.pointer (some ⟨i1,0,none⟩),.pointer (some ⟨i2,0,none⟩),.pointer (some ⟨i3,0,none⟩),.pointer (some ⟨i4,0,none⟩)]⟩])
theorem CntC.mono{F G:Frz}{i1 i2 i3 i4 is ic cap:Nat}{na:Option Addr}{nn nc:Nat}{root:Int}(h:CntC F i1 i2 i3 i4 is ic cap na nn nc root)(hF:Frz.le F G):CntC G i1 i2 i3 i4 is ic cap na nn nc root:=
 ⟨hF _ _ h.st,hF _ _ h.f,hF _ _ h.ct,hF _ _ h.self⟩
structure CInv(Ns:List Node)(st ct:List Nat):Prop where
 l1:st.length=Ns.length
 l2:ct.length=Ns.length
 zero:∀u:Nat,st[u]?=some 0→ct[u]?=some 0
 done:∀u:Nat,st[u]?=some 2→∃c,Still (fun d=>nodeT Ns d u) c∧ct[u]?=some (min c MAXC)
 vals:∀(u x:Nat),st[u]?=some x→x≤2
 bnd:∀(u x:Nat),ct[u]?=some x→x≤MAXC
structure Visited(Ns:List Node)(st ct st' ct':List Nat)(v:Nat):Prop where
 inv:CInv Ns st' ct'
 at_:st'[v]?=some 2
 old:∀(u x:Nat),st[u]?=some x→x≠0→st'[u]?=some x∧ct'[u]?=ct[u]?
 new:∀u:Nat,st'[u]?=some 1→st[u]?=some 1
 fewer:st'.count 0≤st.count 0
structure FOk(Ns:List Node):Prop where
 few:Ns.length≤1000000
 packs:∀x∈Ns,x.packs.length≤1000000
 kid:∀u v,Kid Ns u v→u<Ns.length
structure VLoop(Ns:List Node)(st ct:List Nat)(v:Nat)(s c:List Nat)(val:Nat):Prop where
 inv:CInv Ns s c
 at_:s[v]?=some 1
 old:∀(u y:Nat),st[u]?=some y→y≠0→s[u]?=some y∧c[u]?=ct[u]?
 new:∀u:Nat,s[u]?=some 1→u=v∨st[u]?=some 1
 fewer:s.count 0<st.count 0
 val:c[v]?=some (min val MAXC)
structure VSt where
 st:List Nat
 ct:List Nat
 x:Nat
def Prod(Ns:List Node):Prop:=∀v,v<Ns.length→∃d,1≤nodeT Ns d v
def rootKey(g:Gram)(w:List Nat):Key:=⟨⟨false,g.start⟩,0,w.length⟩
def ForestV(g:Gram)(w:List Nat)(E:List (List Nat))(F:Frz)(v:Value):Prop:=
 (stepB w E ⟨false,g.start⟩ 0 w.length=false∧v=.agg ⟨[.slice none 0 0,.int .i64 (-1)]⟩)∨
 (stepB w E ⟨false,g.start⟩ 0 w.length=true∧∃S a n c,v=.agg ⟨[.slice a n c,.int .i64 (place S (rootKey g w):Nat)]⟩∧Keys g w E (rootKey g w) S∧Arr tNode F a n c (S.map (mkNode g w E S)))
theorem ForestV.mono{g:Gram}{w:List Nat}{E:List (List Nat)}{F G:Frz}{v:Value}(h:ForestV g w E F v)(hF:Frz.le F G):ForestV g w E G v:=by
 rcases h with h | ⟨h1,S,a,n,c,h2,h3,h4⟩
 ·exact .inl h
 ·exact .inr ⟨h1,S,a,n,c,h2,h3,h4.mono hF⟩
mutual
def Tree.pre:Tree→List Int
 | .mk r _ ks=>r::preL ks
def preL:List Tree→List Int
 | []=>[]
 | t::ts=>t.pre++preL ts
end
def lexLt:List Int→List Int→Prop
 | [],[]=>False
 | [],_::_=>True
 | _::_,[]=>False
 | a::l,b::m=>a<b∨(a=b∧lexLt l m)
theorem lexLt_irrefl:∀(l:List Int),¬lexLt l l
 | [],h=>h
 | a::l,h=>by
  rcases h with h | h
  ·omega
  ·exact lexLt_irrefl l h.2
theorem lexLt_trans:∀{l m n:List Int},lexLt l m→lexLt m n→lexLt l n
 | [],[],_,h,_=>h.elim
 | [],_::_,[],_,h=>h.elim
 | [],_::_,_::_,_,_=>trivial
 | _::_,[],_,h,_=>h.elim
 | _::_,_::_,[],_,h=>h.elim
 | a::l,b::m,c::n,h1,h2=>by
  rcases h1 with h1 | ⟨rfl,h1⟩<;>rcases h2 with h2 | ⟨rfl,h2⟩
  ·exact .inl zo
  ·exact .inl h1
  ·exact .inl h2
  ·exact .inr ⟨rfl,lexLt_trans h1 h2⟩
theorem lexLt_app:∀{l m:List Int} (x y:List Int),l.length=m.length→lexLt l m→lexLt (l++x) (m++y)
 | [],[],_,_,_,h=>h.elim
 | [],_::_,_,_,h,_=>by simp at h
 | _::_,[],_,_,h,_=>by simp at h
 | a::l,b::m,x,y,h,h2=>by
  rcases h2 with h2 | ⟨rfl,h2⟩
  ·exact .inl h2
  ·exact .inr ⟨rfl,lexLt_app x y (by simpa using h) h2⟩
theorem lexLt_pre:∀(a:List Int) {x y:List Int},lexLt x y→lexLt (a++x) (a++y)
 | [],_,_,h=>h
 | _::a,_,_,h=>.inr ⟨rfl,lexLt_pre a h⟩
def wlt(l m:List Int):Prop:=l.length<m.length∨(l.length=m.length∧lexLt l m)
def wle(l m:List Int):Prop:=wlt l m∨l=m
theorem wlt_irrefl(l:List Int):¬wlt l l:=fun h=>by
 rcases h with h | h
 ·omega
 ·exact lexLt_irrefl l h.2
theorem wlt_trans{l m n:List Int}(h1:wlt l m)(h2:wlt m n):wlt l n:=by
 rcases h1 with h1 | ⟨e1,h1⟩<;>rcases h2 with h2 | ⟨e2,h2⟩
 ·exact .inl zo
 ·exact .inl zo
 ·exact .inl zo
 ·exact .inr ⟨by omega,lexLt_trans h1 h2⟩
theorem wle_refl(l:List Int):wle l l:=.inr rfl
theorem wle_trans{l m n:List Int}(h1:wle l m)(h2:wle m n):wle l n:=by
 rcases h1 with h1 | rfl
 ·rcases h2 with h2 | rfl
  ·exact .inl (wlt_trans h1 h2)
  ·exact .inl h1
 ·exact h2
theorem wle_wlt{l m n:List Int}(h1:wle l m)(h2:wlt m n):wlt l n:=by
 rcases h1 with h1 | rfl
 ·exact wlt_trans h1 h2
 ·exact h2
theorem wle_len{l m:List Int}(h:wle l m):l.length≤m.length:=by
 rcases h with (h | h) | rfl<;>omega
theorem wlt_appL{a b:List Int}(x y:List Int)(h:wlt a b)(h2:wle x y):wlt (a++x) (b++y):=by
 have hl:=wle_len h2;rcases h with h | ⟨e,h⟩
 ·exact .inl (by simp;omega)
 ·by_cases e2:x.length=y.length
  ·exact .inr ⟨by simp;omega,lexLt_app x y e h⟩
  ·exact .inl (by simp;omega)
theorem wlt_appR(a:List Int){x y:List Int}(h:wlt x y):wlt (a++x) (a++y):=by
 rcases h with h | ⟨e,h⟩
 ·exact .inl (by simp;omega)
 ·exact .inr ⟨by simp;omega,lexLt_pre a h⟩
theorem wle_app{a b x y:List Int}(h:wle a b)(h2:wle x y):wle (a++x) (b++y):=by
 rcases h with h | rfl
 ·exact .inl (wlt_appL x y h h2)
 ·rcases h2 with h2 | rfl
  ·exact .inl (wlt_appR a h2)
  ·exact .inr rfl
theorem wle_cons(a:Int){x y:List Int}(h:wle x y):wle (a::x) (a::y):=wle_app (wle_refl [a]) h
theorem wlt_cons(a:Int){x y:List Int}(h:wlt x y):wlt (a::x) (a::y):=wlt_appR [a] h
def tlt(a b:Tree):Prop:=wlt a.pre b.pre
def tle(a b:Tree):Prop:=wle a.pre b.pre
def allLe:List Tree→List Tree→Prop
 | [],[]=>True
 | a::l,b::m=>tle a b∧allLe l m
 | _,_=>False
theorem preL_le:∀{l m:List Tree},allLe l m→wle (preL l) (preL m)
 | [],[],_=>wle_refl _
 | a::l,b::m,h=>wle_app h.1 (preL_le h.2)
 | [],_::_,h=>h.elim
 | _::_,[],h=>h.elim
theorem preL_set:∀{l:List Tree} {i:Nat} {u t:Tree},l[i]?=some u→tlt t u→wlt (preL (l.set i t)) (preL l)
 | [],_,_,_,h,_=>by simp at h
 | a::l,0,u,t,h,h2=>by
  obtain rfl:a=u:=by simpa using h
  exact wlt_appL _ _ h2 (wle_refl _)
 | a::l,i+1,u,t,h,h2=>wlt_appR _ (preL_set (i:=i) (by simpa using h) h2)
theorem preL_set':∀{l:List Tree} {i:Nat} {u t:Tree},l[i]?=some u→tlt u t→wlt (preL l) (preL (l.set i t))
 | [],_,_,_,h,_=>by simp at h
 | a::l,0,u,t,h,h2=>by
  obtain rfl:a=u:=by simpa using h
  exact wlt_appL _ _ h2 (wle_refl _)
 | a::l,i+1,u,t,h,h2=>wlt_appR _ (preL_set' (i:=i) (by simpa using h) h2)
theorem preL_mem:∀{l:List Tree} {t:Tree},t∈l→t.pre.length≤(preL l).length
 | a::l,t,h=>by
  show _≤(a.pre++preL l).length;rw[List.length_append];rcases List.mem_cons.1 h with rfl | h
  ·omega
  ·have:=preL_mem h;omega
theorem kid_lt{r:Int}{t:Nat}{ks:List Tree}{k:Tree}(h:k∈ks):tlt k (.mk r t ks):=by
 refine .inl ?_;show _<(r::preL ks).length;have:=preL_mem h;simp only[List.length_cons];omega
structure Fo where
 n:Nat
 leaf:Nat→Option Nat
 packs:Nat→List NPack
mutual
inductive NT(f:Fo):Nat→Tree→Prop
 | leaf {v t:Nat}:v<f.n→f.leaf v=some t→NT f v (.mk (-1) t [])
 | node {v:Nat} {p:NPack} {ts:List Tree}:v<f.n→f.leaf v=none→p∈f.packs v→NTs f p.kids ts→NT f v (.mk p.rule 0 ts)
inductive NTs(f:Fo):List Nat→List Tree→Prop
 | nil:NTs f [] []
 | cons {k:Nat} {t:Tree} {ks:List Nat} {ts:List Tree}:NT f k t→NTs f ks ts→NTs f (k::ks) (t::ts)
end
structure Fo.Good(f:Fo):Prop where
 kids:∀v,v<f.n→∀p∈f.packs v,p.kids.length≤4∧∀k∈p.kids,k<f.n
 dec:∀v T T',NT f v T→NT f v T'→T.pre=T'.pre→T=T'
 uniq:∀v,v<f.n→f.leaf v=none→∀(a b:Nat) (p q:NPack),(f.packs v)[a]?=some p→(f.packs v)[b]?=some q→p.rule=q.rule→∀ts,NTs f p.kids ts→NTs f q.kids ts→a=b
theorem NTs.len{f:Fo}:∀{ks:List Nat} {ts:List Tree},NTs f ks ts→ts.length=ks.length
 | [],[],_=>rfl
 | _::_,_::_,.cons _ h=>by simp[NTs.len h]
theorem NTs.at_{f:Fo}:∀{ks:List Nat} {ts:List Tree},NTs f ks ts→∀{i k:Nat} {t:Tree},ks[i]?=some k→ts[i]?=some t→NT f k t
 | _::_,_::_,.cons h h2,0,k,t,h3,h4=>by simp at h3 h4;subst h3 h4;exact h
 | _::_,_::_,.cons h h2,i+1,k,t,h3,h4=>NTs.at_ h2 (by simpa using h3) (by simpa using h4)
 | [],[],_,i,k,t,h3,_=>by simp at h3
theorem NTs.of_at{f:Fo}:∀{ks:List Nat} {ts:List Tree},ts.length=ks.length→(∀(i k:Nat) (t:Tree),ks[i]?=some k→ts[i]?=some t→NT f k t)→NTs f ks ts
 | [],[],_,_=>.nil
 | [],_::_,h,_=>by simp at h
 | _::_,[],h,_=>by simp at h
 | k::ks,t::ts,h,h2=>.cons (h2 0 k t rfl rfl) (NTs.of_at (by simpa using h) fun i k t h3 h4=>h2 (i+1) k t (by simpa using h3) (by simpa using h4))
theorem NTs.set{f:Fo}{ks:List Nat}{ts:List Tree}(h:NTs f ks ts){i k:Nat}{t:Tree}(hk:ks[i]?=some k)(ht:NT f k t):NTs f ks (ts.set i t):=by
 refine NTs.of_at (by rw[List.length_set];exact h.len) fun j k' t' h1 h2=>?_;rw[List.getElem?_set] at h2;split at h2
 ·rename_i e;subst e;rw[hk] at h1;cases h1;split at h2
  ·cases h2;exact ht
  ·cases h2
 ·exact h.at_ h1 h2
structure Cand where
 node:Nat
 pack:Nat
 r0:Nat
 r1:Nat
 r2:Nat
 r3:Nat
deriving DecidableEq
def Cand.ranks(c:Cand):List Nat:=[c.r0,c.r1,c.r2,c.r3]
def Cand.inc(c:Cand):Nat→Cand
 | 0=>{ c with r0:=c.r0+1 }
 | 1=>{ c with r1:=c.r1+1 }
 | 2=>{ c with r2:=c.r2+1 }
 | 3=>{ c with r3:=c.r3+1 }
 | _=>c
theorem Cand.inc_ranks(c:Cand){i r:Nat}(h:c.ranks[i]?=some r):(c.inc i).ranks=c.ranks.set i (r+1):=by
 match i,h with
 | 0,h=>simp[Cand.ranks] at h;subst h;rfl
 | 1,h=>simp[Cand.ranks] at h;subst h;rfl
 | 2,h=>simp[Cand.ranks] at h;subst h;rfl
 | 3,h=>simp[Cand.ranks] at h;subst h;rfl
 | _+4,h=>simp[Cand.ranks] at h
theorem Cand.inc_node(c:Cand)(i:Nat):(c.inc i).node=c.node∧(c.inc i).pack=c.pack:=by
 match i with
 | 0 | 1 | 2 | 3=>exact⟨rfl,rfl⟩
 | _+4=>exact⟨rfl,rfl⟩
theorem Cand.ext_{c d:Cand}(h1:c.node=d.node)(h2:c.pack=d.pack)(h3:c.ranks=d.ranks):c=d:=by
 cases c;cases d;simp[Cand.ranks] at h3;simp_all
def pick(L:Nat→List Tree):List Nat→List Nat→Option (List Tree)
 | [],_=>some []
 | k::ks,r::rs=>match (L k)[r]? with
  | some t=>match pick L ks rs with
   | some ts=>some (t::ts)
   | none=>none
  | none=>none
 | _::_,[]=>none
def miss(L:Nat→List Tree):List Nat→List Nat→Option (Nat×Nat)
 | k::ks,r::rs=>match (L k)[r]? with
  | some _=>miss L ks rs
  | none=>some (k,r)
 | _,_=>none
theorem pick_some{L:Nat→List Tree}:∀{ks rs:List Nat} {ts:List Tree},pick L ks rs=some ts→ts.length=ks.length∧∀(i k:Nat),ks[i]?=some k→∃(r:Nat) (t:Tree),rs[i]?=some r∧(L k)[r]?=some t∧ts[i]?=some t
 | [],_,ts,h=>by
  cases h;exact⟨rfl,fun i k h=>by simp at h⟩
 | k::ks,[],_,h=>by cases h
 | k::ks,r::rs,ts,h=>by
  unfold pick at h;split at h
  ·rename_i t ht;split at h
   ·rename_i ts' hts;cases h;obtain⟨h1,h2⟩:=pick_some hts;refine⟨by simp[h1],fun i k' hk=>?_⟩;cases i with
    | zero=>
     obtain rfl:k=k':=by simpa using hk
     exact⟨r,t,rfl,ht,rfl⟩
    | succ i=>
     obtain⟨r',t',e1,e2,e3⟩:=h2 i k' (by simpa using hk);exact⟨r',t',by simpa using e1,e2,by simpa using e3⟩
   ·cases h
  ·cases h
theorem pick_of{L:Nat→List Tree}:∀{ks rs:List Nat} {ts:List Tree},ts.length=ks.length→(∀(i k:Nat),ks[i]?=some k→∃(r:Nat) (t:Tree),rs[i]?=some r∧(L k)[r]?=some t∧ts[i]?=some t)→pick L ks rs=some ts
 | [],_,ts,h,_=>by
  obtain rfl:ts=[]:=List.eq_nil_of_length_eq_zero h;rfl
 | k::ks,rs,[],h,_=>by simp at h
 | k::ks,rs,t::ts,h,h2=>by
  obtain⟨r,t',e1,e2,e3⟩:=h2 0 k rfl;obtain rfl:t=t':=by simpa using e3
  cases rs with
  | nil=>simp at e1
  | cons r' rs=>
   obtain rfl:r'=r:=by simpa using e1
   have ih:=pick_of (L:=L) (ks:=ks) (rs:=rs) (ts:=ts) (by simpa using h) (fun i k hk=>by
    obtain⟨r,t,g1,g2,g3⟩:=h2 (i+1) k (by simpa using hk);exact⟨r,t,by simpa using g1,g2,by simpa using g3⟩)
   unfold pick;simp only[e2,ih]
theorem miss_some{L:Nat→List Tree}:∀{ks rs:List Nat} {k r:Nat},miss L ks rs=some (k,r)→∃i:Nat,ks[i]?=some k∧rs[i]?=some r∧(L k)[r]?=none
 | [],_,_,_,h=>by cases h
 | _::_,[],_,_,h=>by cases h
 | k0::ks,r0::rs,k,r,h=>by
  unfold miss at h;split at h
  ·obtain⟨i,h1,h2,h3⟩:=miss_some h;exact⟨i+1,by simpa using h1,by simpa using h2,h3⟩
  ·rename_i hn;cases h;exact⟨0,rfl,rfl,hn⟩
def Grew(L L':Nat→List Tree):Prop:=∀v,∃x,L' v=L v++x
theorem Grew.at_{L L':Nat→List Tree}(h:Grew L L'){v r:Nat}{t:Tree}(ht:(L v)[r]?=some t):(L' v)[r]?=some t:=by
 obtain⟨x,hx⟩:=h v;rw[hx,List.getElem?_append_left (gS ht).1];exact ht
theorem pick_grew{L L':Nat→List Tree}(h:Grew L L'){ks rs:List Nat}{ts:List Tree}(hp:pick L ks rs=some ts):pick L' ks rs=some ts:=by
 obtain⟨h1,h2⟩:=pick_some hp;exact pick_of h1 fun i k hk=>by
  obtain⟨r,t,e1,e2,e3⟩:=h2 i k hk;exact⟨r,t,e1,h.at_ e2,e3⟩
theorem miss_grew{L L':Nat→List Tree}(h:Grew L L'):∀{ks rs:List Nat} {k r:Nat},miss L ks rs=some (k,r)→(L' k)[r]?=none→miss L' ks rs=some (k,r)
 | [],_,_,_,h2,_=>by cases h2
 | _::_,[],_,_,h2,_=>by cases h2
 | k0::ks,r0::rs,k,r,h2,h3=>by
  unfold miss at h2;split at h2
  ·rename_i t ht;have:=h.at_ ht;unfold miss;simp only[this];exact miss_grew h h2 h3
  ·cases h2;unfold miss;simp only[h3]
structure Lr where
 rule:Nat
 dot:Nat
deriving DecidableEq,Inhabited
def tLr:Ty Lr where
 size:=2
 rel:=fun _ l x=>l=[.int .i64 x.rule,.int .i64 x.dot]
 len:=fun _ _ _ h=>by rw[h];rfl
 one:=fun _ _ _ h=>by rw[h];rfl
 mono:=fun _ _ _ _ _ h=>h
theorem lrClone_spec(F:Frz){a:Option Addr}{m c:Nat}{xs:List Lr}(hx:Arr tLr F a m c xs)(hm:m≤1000000) :
  Abs.Spec CC 155 [.slice a m c] F [] fun F' v o=>∃B',o=[B']∧∃a' c',v=.slice a' m c'∧Vec tLr F' a' m c' B' xs:=by
 refine Abs.Spec.fn (n:=8) Tryz.func155 rfl rfl fun own=>?_;refine zB4 ?_;refine WT.sliceNil hT Z Z Z Z Z Z Z Z ?_;refine zB4 ?_;refine AW.cond Z (fun h=>?_) (fun h=>?_)
 ·exact shE11
 ·refine zB4 ?_;refine WT.buildT hT Z Z Z Z Z Z Z Z Z Z Z Z Z Z (fun i5 hi5=>?_);refine zB4 ?_;obtain⟨ds,hds,hcs⟩:=news_arr hT hx (t:=229) rfl rfl 156;refine WT.appendE hT Z Z Z Z Z Z Z Z Z Z Z Z (fun h0 s0=>hds _ h0 s0) hcs hx.len (by decide) zom (fun a' c' B' hB' _=>?_);refine zB4 ?_;refine AW.le (OwnLe.cons _ (OwnLe.skip _ oR)) ?_;exact AW.ret ⟨_,[_],⟨_,_,rfl,rfl,rfl⟩,zsb,_,rfl,_,_,rfl,hB'⟩
def ltLr(x y:Lr):Bool:=decide (x.rule<y.rule∨(x.rule=y.rule∧x.dot<y.dot))
theorem ltLr_iff{x y:Lr}:ltLr x y=true↔(x.rule<y.rule∨(x.rule=y.rule∧x.dot<y.dot)):=by unfold ltLr;exact decide_eq_true_iff
theorem ltLr_not{x y:Lr}:ltLr x y=false↔¬(x.rule<y.rule∨(x.rule=y.rule∧x.dot<y.dot)):=by unfold ltLr;exact decide_eq_false_iff_not
theorem ltLr_swo:Go.Sort.SWO ltLr where
 irrefl:=fun x=>by rw[ltLr_not];omega
 trans:=fun x y z h1 h2=>by rw[ltLr_iff] at *;omega
 ntrans:=fun x y z h1 h2=>by rw[ltLr_not] at *;omega
theorem ltLr_anti(x y:Lr)(h1:ltLr x y=false)(h2:ltLr y x=false):x=y:=by
 rw[ltLr_not] at *;cases x;cases y;simp only at h1 h2;simp only[Lr.mk.injEq];omega
theorem cmpLr_lt(x y:Lr):orInt [cmpInt x.rule y.rule,cmpInt x.dot y.dot]<0↔ltLr x y=true:=by
 rw[ltLr_iff];simp only[orInt];unfold cmpInt
 repeat' split
 all_goals omega
theorem lrOrder_spec(F:Frz)(x y:Lr):Abs.Spec CC 158 [.agg ⟨[.int .i64 x.rule,.int .i64 x.dot]⟩,.agg ⟨[.int .i64 y.rule,.int .i64 y.dot]⟩] F [] fun _ v o=>o=[]∧v=.int .i64 (orInt [cmpInt x.rule y.rule,cmpInt x.dot y.dot]):=by
 refine Abs.Spec.fn (n:=17) Tryz.func158 rfl rfl fun own=>?_;refine AW.seq (AW.reg ?_);refine WT.boxT Z Z Z Z Z Z (fun i2 hi2=>?_);refine WT.boxT Z Z Z Z Z Z (fun i3 hi3=>?_);refine zB4 ?_;refine AW.draw (ps:=[(6,4),(8,4)]) Z Z ?_;refine zB4 ?_;refine WT.callV Tryz.func79 Z Z Z Z Z Z (compare_spec _ _ _) (fun v hv=>?_);subst hv;refine zB4 ?_;refine WT.callV Tryz.func79 Z Z Z Z Z Z (compare_spec _ _ _) (fun v hv=>?_);subst hv;refine WT.buildT hT Z Z Z Z Z Z Z Z Z Z Z Z Z Z (fun i9 hi9=>?_)
 refine WT.callLend 0 Tryz.func110 Z Z Z Z Z Z Z (fun G hG hBG=>or_spec G (l:=[cmpInt x.rule y.rule,cmpInt x.dot y.dot]) (Bld.frozen (F:=F) (B:=[(i9,.cells false [.int .i64 (cmpInt x.rule y.rule),.int .i64 (cmpInt x.dot y.dot)])]) ⟨rfl,.inr ⟨i9,_,rfl,rfl,rfl,Cells.cons (l:=[_]) Z (Cells.single (x:=cmpInt x.dot y.dot) rfl),by decide⟩⟩ hG hBG) (by decide)) (fun v hv=>?_);subst hv;refine zB4 ?_;refine⟨zrC,?_⟩;exact AW.ret ⟨_,[],⟨_,_,rfl,rfl,rfl⟩,zsb,rfl,rfl⟩
theorem lrOrder_cmp(F:Frz):CmpOk tLr ltLr F 158 [] []:=
 ⟨⟨_,Tryz.func158,rfl⟩,fun G _ lx ly x y hx hy=>by
  obtain rfl:lx=_:=hx;obtain rfl:ly=_:=hy;exact Spec.mono (lrOrder_spec G x y) (fun F' v o _ h=>⟨h.1,_,h.2,cmpLr_lt x y⟩)⟩
theorem lrIndex_spec(F:Frz){a:Option Addr}{m c:Nat}{xs:List Lr}(hx:Arr tLr F a m c xs)(hm:m≤1000000)(x:Lr) :
  Abs.Spec CC 171 [.slice a m c,.agg ⟨[.int .i64 x.rule,.int .i64 x.dot]⟩] F [] fun _ v o=>o=[]∧∃i:Int,v=.int .i64 i∧(0≤i↔x∈xs):=by
 refine Abs.Spec.fn (n:=19) Tryz.func171 rfl rfl fun own=>?_;have hxlen:=hx.len;refine AW.seq (AW.reg ?_);refine WT.boxT Z Z Z Z Z Z (fun i3 hi3=>?_);refine zB4 ?_;refine AW.range (S:=Unit) (fun _=>[]) (fun _=>_) (fun j _ G=>x∉xs.take j) m () Z Z Z Z Z Z Z Z Z zo Z Z (fun _=>rfl) (fun _=>rfl) sM oR (by simp) ?_ ?_
 ·intro j _ F1 hF1 hj hP;have hx1:=hx.mono hF1;refine zB4 ?_;refine WT.idxL hT hx1 Z Z Z Z Z Z Z Z Z zo (fun y hyj b1 off ro cs ly hb hp1 hrel=>?_);obtain rfl:ly=_:=hrel;refine zB4 ?_;refine AW.cond Z (fun hc=>?_) (fun hc=>?_)
  ·refine zB4 ?_;have e:x=y:=by
    simp at hc;cases x;cases y;simp only[Lr.mk.injEq] at *;omega
   subst e;refine AW.ret ⟨_,[],⟨_,_,rfl,rfl,rfl⟩,zsb,rfl,_,rfl,?_⟩;exact⟨fun _=>gM hyj,fun _=>by omega⟩
  ·refine zB4 ?_;refine⟨(),sM,zow,?_⟩;show x∉xs.take (j+1);rw[List.take_add_one,hyj];intro hm;rcases List.mem_append.1 hm with h | h
   ·exact hP h
   ·have e:x=y:=by simpa using h
    subst e;simp at hc
 ·intro _ F1 hF1 hP;rw[List.take_of_length_le zo] at hP;refine zB4 ?_;exact AW.ret ⟨_,[],⟨_,_,rfl,rfl,rfl⟩,zsb,rfl,_,rfl,by simp[hP]⟩
theorem lrContains_spec(F:Frz){a:Option Addr}{m c:Nat}{xs:List Lr}(hx:Arr tLr F a m c xs)(hm:m≤1000000)(x:Lr) :
  Abs.Spec CC 156 [.slice a m c,.agg ⟨[.int .i64 x.rule,.int .i64 x.dot]⟩] F [] fun _ v o=>o=[]∧v=.bool (decide (x∈xs)):=by
 refine Abs.Spec.fn (n:=9) Tryz.func156 rfl rfl fun own=>?_;refine AW.seq (AW.reg ?_);refine WT.boxT Z Z Z Z Z Z (fun i3 hi3=>?_);refine zB4 ?_;refine WT.callV Tryz.func171 Z Z Z Z Z Z (lrIndex_spec _ hx hm x) (fun v hv=>?_);obtain⟨i,rfl,hi⟩:=hv;refine zB4 ?_;refine AW.ret ⟨_,[],⟨_,_,rfl,rfl,rfl⟩,zsb,rfl,?_⟩;rw[show decide (x∈xs)=decide (0≤i) from by simp[hi]];rfl
end Go.Proofs.D