/-
  Walks: what functions of the program do, over the abstract machine.
-/
import Derived.Test.YtnbhiijpjbnfaaaDoorWk0
import Derived.Sort.Walk13a
set_option linter.unusedVariables false
set_option maxRecDepth 20000
set_option maxHeartbeats 0
open Go Go.Abs Go.Proofs Go.Proofs.D
namespace Go.Proofs.D
instance:Inhabited Key:=⟨⟨⟨false,0⟩,0,0⟩⟩
def ltKey(x y:Key):Bool:=decide (x.frm<y.frm∨(x.frm=y.frm∧(x.to<y.to∨(x.to=y.to∧cmpSym x.sym y.sym<0))))
theorem ltKey_iff{x y:Key}:ltKey x y=true↔(x.frm<y.frm∨(x.frm=y.frm∧(x.to<y.to∨(x.to=y.to∧cmpSym x.sym y.sym<0)))):=by unfold ltKey;exact decide_eq_true_iff
theorem cmpSym_lt(a b:Sym):cmpSym a b<0↔((a.term=true∧b.term=false)∨(a.term=b.term∧a.n<b.n)):=by
 obtain⟨at_,an⟩:=a;obtain⟨bt,bn⟩:=b;unfold cmpSym cmpInt;cases at_<;>cases bt<;>simp<;>(repeat' split)<;>omega
def cmpNats:List Nat→List Nat→Int
 | [],[]=>0
 | [],_::_=>-1
 | _::_,[]=>1
 | a::l,b::m=>if cmpInt a b=0 then cmpNats l m else cmpInt a b
structure NPack where
 rule:Nat
 kids:List Nat
deriving DecidableEq
def tNPack:Ty NPack where
 size:=2
 rel:=fun F l x=>∃a n c,l=[.int .i64 x.rule,.slice a n c]∧Arr tNat F a n c x.kids∧x.kids.length≤1000000
 len:=fun _ _ _ h=>by obtain⟨a,n,c,rfl,_⟩:=h;rfl
 one:=fun _ _ _ h=>by obtain⟨a,n,c,rfl,_⟩:=h;rfl
 mono:=fun _ _ _ _ hF h=>by obtain⟨a,n,c,e,h,hb⟩:=h;exact⟨a,n,c,e,h.mono hF,hb⟩
def cmpNPack(x y:NPack):Int:=orInt [cmpInt x.rule y.rule,cmpNats x.kids y.kids]
inductive Reachable(g:Gram)(w:List Nat)(E:List (List Nat))(root:Key):Key→Prop
 | root:Reachable g w E root root
 | kid {k q:Key} {p:KPack}:Reachable g w E root k→p∈packsOf g w E k→q∈p.kids→Reachable g w E root q
structure Node where
 key:Key
 packs:List NPack
def tNode:Ty Node where
 size:=5
 rel:=fun F l x=>∃a n c,l=[.bool x.key.sym.term,.int .i64 x.key.sym.n,.int .i64 x.key.frm,.int .i64 x.key.to,.slice a n c]∧Arr tNPack F a n c x.packs
 len:=fun _ _ _ h=>by obtain⟨a,n,c,rfl,_⟩:=h;rfl
 one:=fun _ _ _ h=>by obtain⟨a,n,c,rfl,_⟩:=h;rfl
 mono:=fun _ _ _ _ hF h=>by obtain⟨a,n,c,e,h⟩:=h;exact⟨a,n,c,e,h.mono hF⟩
def place(S:List Key)(k:Key):Nat:=S.idxOf k
def numPack(S:List Key)(p:KPack):NPack:=⟨p.rule,p.kids.map (place S)⟩
def mkNode(g:Gram)(w:List Nat)(E:List (List Nat))(S:List Key)(k:Key):Node:=⟨k,(packsOf g w E k).map (numPack S)⟩
structure Keys(g:Gram)(w:List Nat)(E:List (List Nat))(root:Key)(S:List Key):Prop where
 sorted:S.Pairwise (fun x y=>ltKey x y=true)
 reach:∀k∈S,Reachable g w E root k
 first:root∈S
 closed:∀k∈S,∀p∈packsOf g w E k,∀q∈p.kids,q∈S
theorem Keys.all{g:Gram}{w:List Nat}{E:List (List Nat)}{root:Key}{S:List Key}(h:Keys g w E root S){k:Key}(hk:Reachable g w E root k):k∈S:=by
 induction hk with
 | root=>exact h.first
 | kid _ hp hq ih=>exact h.closed _ ih _ hp _ hq
def packSum(g:Gram)(w:List Nat)(E:List (List Nat))(L:List Key):Nat:=(L.map fun k=>(packsOf g w E k).length).sum
structure IS where
 L:List Key
 a:Option Addr
 c:Nat
 B:List (Nat×Blk)
 se:Ents Key
structure KS where
 a:Option Addr
 n:Nat
 c:Nat
 B:List (Nat×Blk)
structure BS where
 i:Nat
 L:List Key
 a:Option Addr
 c:Nat
 B:List (Nat×Blk)
 pe:Ents Key
 se:Ents Key
 cnt:Nat
structure LInv(g:Gram)(w:List Nat)(E:List (List Nat))(root:Key)(L:List Key)(se:Ents Key):Prop where
 nd:L.Nodup
 first:root∈L
 reach:∀k∈L,Reachable g w E root k
 seen:∀k,Abs.look se k=if k∈L then some (.bool true) else none
structure BInv(g:Gram)(w:List Nat)(E:List (List Nat))(root:Key)(F:Frz)(s:BS):Prop where
 l:LInv g w E root s.L s.se
 packs:∀j k,j<s.i→s.L[j]?=some k→∃a n c,Abs.look s.pe k=some (.slice a n c)∧Arr tKPack F a n c (packsOf g w E k)
 closed:∀j k,j<s.i→s.L[j]?=some k→∀p∈packsOf g w E k,∀q∈p.kids,q∈s.L
 cnt:s.cnt=packSum g w E (s.L.take s.i)
 le:s.i≤s.L.length
theorem BInv.mono{g:Gram}{w:List Nat}{E:List (List Nat)}{root:Key}{F G:Frz}{s:BS}(h:BInv g w E root F s)(hF:Frz.le F G):BInv g w E root G s:=
 ⟨h.l,fun j k h1 h2=>by obtain⟨a,n,c,h3,h4⟩:=h.packs j k h1 h2;exact⟨a,n,c,h3,h4.mono hF⟩,h.closed,h.cnt,h.le⟩
def prodN:List Nat→Nat
 | []=>1
 | a::l=>a*prodN l
def leafN(x:Node):Nat:=if x.key.sym.term=true then 1 else 0
def packN(f:Nat→Nat)(p:NPack):Nat:=prodN (p.kids.map f)
def nodeT(Ns:List Node):Nat→Nat→Nat
 | 0,_=>0
 | d+1,v=>match Ns[v]? with
  | some x=>leafN x+(x.packs.map (packN (nodeT Ns d))).sum
  | none=>0
def Still(T:Nat→Nat)(c:Nat):Prop:=∃D,∀d,D≤d→T d=c
def Kid(Ns:List Node)(u v:Nat):Prop:=∃x p,Ns[v]?=some x∧p∈x.packs∧u∈p.kids
inductive Path(Ns:List Node):Nat→Nat→Prop
 | one {v u:Nat}:Kid Ns u v→Path Ns v u
 | step {v u z:Nat}:Path Ns v u→Kid Ns z u→Path Ns v z
theorem Path.trans{Ns:List Node}{a b c:Nat}(h:Path Ns a b)(h2:Path Ns b c):Path Ns a c:=by
 induction h2 with
 | one k=>exact .step h k
 | step _ k ih=>exact .step ih k
def Unbound(T:Nat→Nat):Prop:=∀B,∃d,B≤T d
section
variable {Ns:List Node}(hpr:∀v,v<Ns.length→∃d,1≤nodeT Ns d v)(hkid:∀u v,Kid Ns u v→u<Ns.length)
include hpr hkid
omit hkid in
end
def MAXC:Nat:=1000000000
def CountVal(T:Nat→Nat)(c:Int):Prop:=(∃n,Still T n∧c=(min n MAXC:Nat))∨(Unbound T∧c=-1)
structure CntC(F:Frz)(i1 i2 i3 i4 is ic cap:Nat)(na:Option Addr)(nn nc:Nat)(root:Int):Prop where
 st:F i1=some (.cells false [.slice (some ⟨is,0,none⟩) nn cap])
 f:F i2=some (.cells false [.slice na nn nc,.int .i64 root])
 ct:F i3=some (.cells false [.slice (some ⟨ic,0,none⟩) nn cap])
 self:F i4=some (.cells false [.func (.func 63) ⟨[]⟩ ⟨[.pointer (some ⟨i1,0,none⟩),.pointer (some ⟨i2,0,none⟩),.pointer (some ⟨i3,0,none⟩),.pointer (some ⟨i4,0,none⟩)]⟩])
theorem CntC.mono{F G:Frz}{i1 i2 i3 i4 is ic cap:Nat}{na:Option Addr}{nn nc:Nat}{root:Int}(h:CntC F i1 i2 i3 i4 is ic cap na nn nc root)(hF:Frz.le F G):CntC G i1 i2 i3 i4 is ic cap na nn nc root:=
 ⟨hF _ _ h.st,hF _ _ h.f,hF _ _ h.ct,hF _ _ h.self⟩
structure CInv(Ns:List Node)(st ct:List Nat):Prop where
 l1:st.length=Ns.length
 l2:ct.length=Ns.length
 zero:∀u:Nat,st[u]?=some 0→ct[u]?=some 0
 done:∀u:Nat,st[u]?=some 2→∃c,Still (fun d=>nodeT Ns d u) c∧ct[u]?=some (min c MAXC)
 vals:∀(u x:Nat),st[u]?=some x→x≤2
 bnd:∀(u x:Nat),ct[u]?=some x→x≤MAXC
structure Visited(Ns:List Node)(st ct st' ct':List Nat)(v:Nat):Prop where
 inv:CInv Ns st' ct'
 at_:st'[v]?=some 2
 old:∀(u x:Nat),st[u]?=some x→x≠0→st'[u]?=some x∧ct'[u]?=ct[u]?
 new:∀u:Nat,st'[u]?=some 1→st[u]?=some 1
 fewer:st'.count 0≤st.count 0
structure FOk(Ns:List Node):Prop where
 few:Ns.length≤1000000
 packs:∀x∈Ns,x.packs.length≤1000000
 kid:∀u v,Kid Ns u v→u<Ns.length
structure VLoop(Ns:List Node)(st ct:List Nat)(v:Nat)(s c:List Nat)(val:Nat):Prop where
 inv:CInv Ns s c
 at_:s[v]?=some 1
 old:∀(u y:Nat),st[u]?=some y→y≠0→s[u]?=some y∧c[u]?=ct[u]?
 new:∀u:Nat,s[u]?=some 1→u=v∨st[u]?=some 1
 fewer:s.count 0<st.count 0
 val:c[v]?=some (min val MAXC)
structure VSt where
 st:List Nat
 ct:List Nat
 x:Nat
def Prod(Ns:List Node):Prop:=∀v,v<Ns.length→∃d,1≤nodeT Ns d v
def rootKey(g:Gram)(w:List Nat):Key:=⟨⟨false,g.start⟩,0,w.length⟩
def ForestV(g:Gram)(w:List Nat)(E:List (List Nat))(F:Frz)(v:Value):Prop:=
 (stepB w E ⟨false,g.start⟩ 0 w.length=false∧v=.agg ⟨[.slice none 0 0,.int .i64 (-1)]⟩)∨
 (stepB w E ⟨false,g.start⟩ 0 w.length=true∧∃S a n c,v=.agg ⟨[.slice a n c,.int .i64 (place S (rootKey g w):Nat)]⟩∧Keys g w E (rootKey g w) S∧Arr tNode F a n c (S.map (mkNode g w E S)))
theorem ForestV.mono{g:Gram}{w:List Nat}{E:List (List Nat)}{F G:Frz}{v:Value}(h:ForestV g w E F v)(hF:Frz.le F G):ForestV g w E G v:=by
 rcases h with h | ⟨h1,S,a,n,c,h2,h3,h4⟩
 ·exact .inl h
 ·exact .inr ⟨h1,S,a,n,c,h2,h3,h4.mono hF⟩
mutual
def Tree.pre:Tree→List Int
 | .mk r _ ks=>r::preL ks
def preL:List Tree→List Int
 | []=>[]
 | t::ts=>t.pre++preL ts
end
theorem preL_mem:∀{l:List Tree} {t:Tree},t∈l→t.pre.length≤(preL l).length
 | a::l,t,h=>by
  show _≤(a.pre++preL l).length;rw[List.length_append];rcases List.mem_cons.1 h with rfl | h
  ·omega
  ·have:=preL_mem h;omega
structure Fo where
 n:Nat
 leaf:Nat→Option Nat
 packs:Nat→List NPack
mutual
inductive NT(f:Fo):Nat→Tree→Prop
 | leaf {v t:Nat}:v<f.n→f.leaf v=some t→NT f v (.mk (-1) t [])
 | node {v:Nat} {p:NPack} {ts:List Tree}:v<f.n→f.leaf v=none→p∈f.packs v→NTs f p.kids ts→NT f v (.mk p.rule 0 ts)
inductive NTs(f:Fo):List Nat→List Tree→Prop
 | nil:NTs f [] []
 | cons {k:Nat} {t:Tree} {ks:List Nat} {ts:List Tree}:NT f k t→NTs f ks ts→NTs f (k::ks) (t::ts)
end
structure Fo.Good(f:Fo):Prop where
 kids:∀v,v<f.n→∀p∈f.packs v,p.kids.length≤4∧∀k∈p.kids,k<f.n
 dec:∀v T T',NT f v T→NT f v T'→T.pre=T'.pre→T=T'
 uniq:∀v,v<f.n→f.leaf v=none→∀(a b:Nat) (p q:NPack),(f.packs v)[a]?=some p→(f.packs v)[b]?=some q→p.rule=q.rule→∀ts,NTs f p.kids ts→NTs f q.kids ts→a=b
structure Cand where
 node:Nat
 pack:Nat
 r0:Nat
 r1:Nat
 r2:Nat
 r3:Nat
deriving DecidableEq
def pick(L:Nat→List Tree):List Nat→List Nat→Option (List Tree)
 | [],_=>some []
 | k::ks,r::rs=>match (L k)[r]? with
  | some t=>match pick L ks rs with
   | some ts=>some (t::ts)
   | none=>none
  | none=>none
 | _::_,[]=>none
structure Lr where
 rule:Nat
 dot:Nat
deriving DecidableEq,Inhabited
structure LCt where
 i:Nat
 q:Nat
 ys:List Lr
 B:List (Nat×Blk)
def afterL(g:Gram)(x:Lr):Option Sym:=
 if x.rule=g.rules.length then (if x.dot=0 then some ⟨false,g.start⟩ else none) else match g.rules[x.rule]? with
  | some r=>r.right[x.dot]?
  | none=>none
inductive Clos(g:Gram)(l:List Lr):Lr→Prop
 | base {x:Lr}:x∈l→Clos g l x
 | more {x:Lr} {n k:Nat} {r:Rule}:Clos g l x→afterL g x=some ⟨false,n⟩→g.rules[k]?=some r→r.left=n→Clos g l ⟨k,0⟩
structure ClInv(g:Gram)(l xs:List Lr):Prop where
 ad:∃ad:List Nat,xs=l++ad.map (fun k=>⟨k,0⟩)∧ad.Nodup∧∀k∈ad,k<g.rules.length
 clos:∀x∈xs,Clos g l x
structure KSt where
 i:Nat
 xs:List Lr
 a:Option Addr
 c:Nat
 B:List (Nat×Blk)
end Go.Proofs.D