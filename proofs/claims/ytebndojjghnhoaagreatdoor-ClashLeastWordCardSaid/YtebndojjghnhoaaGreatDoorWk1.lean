/-
  Walks: what functions of the program do, over the abstract machine.
-/
import Derived.Test.YtebndojjghnhoaaGreatDoorWk0
import Derived.Sort.Walk13a
set_option linter.unusedVariables false
set_option maxRecDepth 20000
set_option maxHeartbeats 0
open Go Go.Abs Go.Proofs Go.Proofs.D
namespace Go.Proofs.D
instance:Inhabited Key:=⟨⟨⟨false,0⟩,0,0⟩⟩
def ltKey(x y:Key):Bool:=decide (x.frm<y.frm∨(x.frm=y.frm∧(x.to<y.to∨(x.to=y.to∧cmpSym x.sym y.sym<0))))
theorem ltKey_iff{x y:Key}:ltKey x y=true↔(x.frm<y.frm∨(x.frm=y.frm∧(x.to<y.to∨(x.to=y.to∧cmpSym x.sym y.sym<0)))):=by unfold ltKey;exact decide_eq_true_iff
theorem cmpSym_lt(a b:Sym):cmpSym a b<0↔((a.term=true∧b.term=false)∨(a.term=b.term∧a.n<b.n)):=by
 obtain⟨at_,an⟩:=a;obtain⟨bt,bn⟩:=b;unfold cmpSym cmpInt;cases at_<;>cases bt<;>simp<;>(repeat' split)<;>omega
structure NPack where
 rule:Nat
 kids:List Nat
deriving DecidableEq
def tNPack:Ty NPack where
 size:=2
 rel:=fun F l x=>∃a n c,l=[.int .i64 x.rule,.slice a n c]∧Arr tNat F a n c x.kids∧x.kids.length≤1000000
 len:=fun _ _ _ h=>by obtain⟨a,n,c,rfl,_⟩:=h;rfl
 one:=fun _ _ _ h=>by obtain⟨a,n,c,rfl,_⟩:=h;rfl
 mono:=fun _ _ _ _ hF h=>by obtain⟨a,n,c,e,h,hb⟩:=h;exact⟨a,n,c,e,h.mono hF,hb⟩
def cmpNPack(x y:NPack):Int:=orInt [cmpInt x.rule y.rule,cmpNats x.kids y.kids]
inductive Reachable(g:Gram)(w:List Nat)(E:List (List Nat))(root:Key):Key→Prop
 | root:Reachable g w E root root
 | kid {k q:Key} {p:KPack}:Reachable g w E root k→p∈packsOf g w E k→q∈p.kids→Reachable g w E root q
theorem mem_packsOf{g:Gram}{w:List Nat}{E:List (List Nat)}{k:Key}{p:KPack}:p∈packsOf g w E k↔∃r,g.rules[p.rule]?=some r∧r.left=k.sym.n∧k.sym.term=false∧p.kids∈splits w E k.to r.right k.frm:=by
 unfold packsOf;rw[List.mem_flatMap];constructor
 ·rintro⟨i,hi,hp⟩;unfold packsAt at hp;split at hp
  ·rename_i r hr;split at hp
   ·rename_i hc;obtain⟨ks,hks,rfl⟩:=List.mem_map.1 hp;exact⟨r,hr,hc.1,hc.2,hks⟩
   ·cases hp
  ·cases hp
 ·rintro⟨r,hr,h1,h2,h3⟩;refine⟨p.rule,List.mem_range.2 (gS hr).1,?_⟩;unfold packsAt;rw[hr];simp only;rw[if_pos ⟨h1,h2⟩];exact List.mem_map.2 ⟨p.kids,h3,by cases p;rfl⟩
inductive KLt:List Key→List Key→Prop
 | here {a b:Key} {l m:List Key}:a.sym=b.sym→a.frm=b.frm→a.to<b.to→KLt (a::l) (b::m)
 | next {a:Key} {l m:List Key}:KLt l m→KLt (a::l) (a::m)
structure Node where
 key:Key
 packs:List NPack
def tNode:Ty Node where
 size:=5
 rel:=fun F l x=>∃a n c,l=[.bool x.key.sym.term,.int .i64 x.key.sym.n,.int .i64 x.key.frm,.int .i64 x.key.to,.slice a n c]∧Arr tNPack F a n c x.packs
 len:=fun _ _ _ h=>by obtain⟨a,n,c,rfl,_⟩:=h;rfl
 one:=fun _ _ _ h=>by obtain⟨a,n,c,rfl,_⟩:=h;rfl
 mono:=fun _ _ _ _ hF h=>by obtain⟨a,n,c,e,h⟩:=h;exact⟨a,n,c,e,h.mono hF⟩
def place(S:List Key)(k:Key):Nat:=S.idxOf k
def numPack(S:List Key)(p:KPack):NPack:=⟨p.rule,p.kids.map (place S)⟩
def mkNode(g:Gram)(w:List Nat)(E:List (List Nat))(S:List Key)(k:Key):Node:=⟨k,(packsOf g w E k).map (numPack S)⟩
structure Keys(g:Gram)(w:List Nat)(E:List (List Nat))(root:Key)(S:List Key):Prop where
 sorted:S.Pairwise (fun x y=>ltKey x y=true)
 reach:∀k∈S,Reachable g w E root k
 first:root∈S
 closed:∀k∈S,∀p∈packsOf g w E k,∀q∈p.kids,q∈S
theorem Keys.all{g:Gram}{w:List Nat}{E:List (List Nat)}{root:Key}{S:List Key}(h:Keys g w E root S){k:Key}(hk:Reachable g w E root k):k∈S:=by
 induction hk with
 | root=>exact h.first
 | kid _ hp hq ih=>exact h.closed _ ih _ hp _ hq
def packSum(g:Gram)(w:List Nat)(E:List (List Nat))(L:List Key):Nat:=(L.map fun k=>(packsOf g w E k).length).sum
structure IS where
 L:List Key
 a:Option Addr
 c:Nat
 B:List (Nat×Blk)
 se:Ents Key
structure KS where
 a:Option Addr
 n:Nat
 c:Nat
 B:List (Nat×Blk)
structure BS where
 i:Nat
 L:List Key
 a:Option Addr
 c:Nat
 B:List (Nat×Blk)
 pe:Ents Key
 se:Ents Key
 cnt:Nat
structure LInv(g:Gram)(w:List Nat)(E:List (List Nat))(root:Key)(L:List Key)(se:Ents Key):Prop where
 nd:L.Nodup
 first:root∈L
 reach:∀k∈L,Reachable g w E root k
 seen:∀k,Abs.look se k=if k∈L then some (.bool true) else none
structure BInv(g:Gram)(w:List Nat)(E:List (List Nat))(root:Key)(F:Frz)(s:BS):Prop where
 l:LInv g w E root s.L s.se
 packs:∀j k,j<s.i→s.L[j]?=some k→∃a n c,Abs.look s.pe k=some (.slice a n c)∧Arr tKPack F a n c (packsOf g w E k)
 closed:∀j k,j<s.i→s.L[j]?=some k→∀p∈packsOf g w E k,∀q∈p.kids,q∈s.L
 cnt:s.cnt=packSum g w E (s.L.take s.i)
 le:s.i≤s.L.length
theorem BInv.mono{g:Gram}{w:List Nat}{E:List (List Nat)}{root:Key}{F G:Frz}{s:BS}(h:BInv g w E root F s)(hF:Frz.le F G):BInv g w E root G s:=
 ⟨h.l,fun j k h1 h2=>by obtain⟨a,n,c,h3,h4⟩:=h.packs j k h1 h2;exact⟨a,n,c,h3,h4.mono hF⟩,h.closed,h.cnt,h.le⟩
def prodN:List Nat→Nat
 | []=>1
 | a::l=>a*prodN l
def leafN(x:Node):Nat:=if x.key.sym.term=true then 1 else 0
def packN(f:Nat→Nat)(p:NPack):Nat:=prodN (p.kids.map f)
def nodeT(Ns:List Node):Nat→Nat→Nat
 | 0,_=>0
 | d+1,v=>match Ns[v]? with
  | some x=>leafN x+(x.packs.map (packN (nodeT Ns d))).sum
  | none=>0
def Still(T:Nat→Nat)(c:Nat):Prop:=∃D,∀d,D≤d→T d=c
def Kid(Ns:List Node)(u v:Nat):Prop:=∃x p,Ns[v]?=some x∧p∈x.packs∧u∈p.kids
inductive Path(Ns:List Node):Nat→Nat→Prop
 | one {v u:Nat}:Kid Ns u v→Path Ns v u
 | step {v u z:Nat}:Path Ns v u→Kid Ns z u→Path Ns v z
theorem Path.trans{Ns:List Node}{a b c:Nat}(h:Path Ns a b)(h2:Path Ns b c):Path Ns a c:=by
 induction h2 with
 | one k=>exact .step h k
 | step _ k ih=>exact .step ih k
def Unbound(T:Nat→Nat):Prop:=∀B,∃d,B≤T d
section
variable {Ns:List Node}(hpr:∀v,v<Ns.length→∃d,1≤nodeT Ns d v)(hkid:∀u v,Kid Ns u v→u<Ns.length)
include hpr hkid
omit hkid in
end
def MAXC:Nat:=1000000000
def CountVal(T:Nat→Nat)(c:Int):Prop:=(∃n,Still T n∧c=(min n MAXC:Nat))∨(Unbound T∧c=-1)
structure CntC(F:Frz)(i1 i2 i3 i4 is ic cap:Nat)(na:Option Addr)(nn nc:Nat)(root:Int):Prop where
 st:F i1=some (.cells false [.slice (some ⟨is,0,none⟩) nn cap])
 f:F i2=some (.cells false [.slice na nn nc,.int .i64 root])
 ct:F i3=some (.cells false [.slice (some ⟨ic,0,none⟩) nn cap])
 self:F i4=some (.cells false [.func (.func 93) ⟨[]⟩ ⟨[.pointer (some ⟨i1,0,none⟩),.pointer (some ⟨i2,0,none⟩),.pointer (some ⟨i3,0,none⟩),.pointer (some ⟨i4,0,none⟩)]⟩])
theorem CntC.mono{F G:Frz}{i1 i2 i3 i4 is ic cap:Nat}{na:Option Addr}{nn nc:Nat}{root:Int}(h:CntC F i1 i2 i3 i4 is ic cap na nn nc root)(hF:Frz.le F G):CntC G i1 i2 i3 i4 is ic cap na nn nc root:=
 ⟨hF _ _ h.st,hF _ _ h.f,hF _ _ h.ct,hF _ _ h.self⟩
structure CInv(Ns:List Node)(st ct:List Nat):Prop where
 l1:st.length=Ns.length
 l2:ct.length=Ns.length
 zero:∀u:Nat,st[u]?=some 0→ct[u]?=some 0
 done:∀u:Nat,st[u]?=some 2→∃c,Still (fun d=>nodeT Ns d u) c∧ct[u]?=some (min c MAXC)
 vals:∀(u x:Nat),st[u]?=some x→x≤2
 bnd:∀(u x:Nat),ct[u]?=some x→x≤MAXC
structure Visited(Ns:List Node)(st ct st' ct':List Nat)(v:Nat):Prop where
 inv:CInv Ns st' ct'
 at_:st'[v]?=some 2
 old:∀(u x:Nat),st[u]?=some x→x≠0→st'[u]?=some x∧ct'[u]?=ct[u]?
 new:∀u:Nat,st'[u]?=some 1→st[u]?=some 1
 fewer:st'.count 0≤st.count 0
structure FOk(Ns:List Node):Prop where
 few:Ns.length≤1000000
 packs:∀x∈Ns,x.packs.length≤1000000
 kid:∀u v,Kid Ns u v→u<Ns.length
structure VLoop(Ns:List Node)(st ct:List Nat)(v:Nat)(s c:List Nat)(val:Nat):Prop where
 inv:CInv Ns s c
 at_:s[v]?=some 1
 old:∀(u y:Nat),st[u]?=some y→y≠0→s[u]?=some y∧c[u]?=ct[u]?
 new:∀u:Nat,s[u]?=some 1→u=v∨st[u]?=some 1
 fewer:s.count 0<st.count 0
 val:c[v]?=some (min val MAXC)
structure VSt where
 st:List Nat
 ct:List Nat
 x:Nat
def Prod(Ns:List Node):Prop:=∀v,v<Ns.length→∃d,1≤nodeT Ns d v
def StepK(w:List Nat)(E:List (List Nat))(k:Key):Prop:=stepB w E k.sym k.frm k.to=true
theorem splits_step{w:List Nat}{E:List (List Nat)}{to:Nat}:∀{l:List Sym} {i:Nat} {ks:List Key},ks∈splits w E to l i→∀q∈ks,StepK w E q
 | [],i,ks,h,q,hq=>by
  unfold splits at h;split at h
  ·rw[List.mem_singleton.1 h] at hq;cases hq
  ·cases h
 | s::l,i,ks,h,q,hq=>by
  unfold splits at h;obtain⟨m,_,hm⟩:=List.mem_flatMap.1 h;split at hm
  ·rename_i hs;obtain⟨ks',h2,rfl⟩:=List.mem_map.1 hm;rcases List.mem_cons.1 hq with rfl | hq
   ·exact hs
   ·exact splits_step h2 q hq
  ·cases hm
theorem Reachable.step{g:Gram}{w:List Nat}{E:List (List Nat)}{root k:Key}(h:Reachable g w E root k)(hr:StepK w E root):StepK w E k:=by
 cases h with
 | root=>exact hr
 | kid _ hp hq=>
  obtain⟨r,_,_,_,h3⟩:=mem_packsOf.1 hp;exact splits_step h3 _ hq
def rootKey(g:Gram)(w:List Nat):Key:=⟨⟨false,g.start⟩,0,w.length⟩
def ForestV(g:Gram)(w:List Nat)(E:List (List Nat))(F:Frz)(v:Value):Prop:=
 (stepB w E ⟨false,g.start⟩ 0 w.length=false∧v=.agg ⟨[.slice none 0 0,.int .i64 (-1)]⟩)∨
 (stepB w E ⟨false,g.start⟩ 0 w.length=true∧∃S a n c,v=.agg ⟨[.slice a n c,.int .i64 (place S (rootKey g w):Nat)]⟩∧Keys g w E (rootKey g w) S∧Arr tNode F a n c (S.map (mkNode g w E S)))
theorem ForestV.mono{g:Gram}{w:List Nat}{E:List (List Nat)}{F G:Frz}{v:Value}(h:ForestV g w E F v)(hF:Frz.le F G):ForestV g w E G v:=by
 rcases h with h | ⟨h1,S,a,n,c,h2,h3,h4⟩
 ·exact .inl h
 ·exact .inr ⟨h1,S,a,n,c,h2,h3,h4.mono hF⟩
structure CpS where
 j:Nat
 a:Option Addr
 c:Nat
 B:List (Nat×Blk)
theorem mono_le{T:Nat→Nat}(hm:∀d,T d≤T (d+1)){d e:Nat}(h:d≤e):T d≤T e:=by
 induction e with
 | zero => obtain rfl : d = 0 := by omega
           exact Nat.le_refl _
 | succ e ih=>
  rcases Nat.lt_or_ge d (e+1) with h2 | h2
  ·exact Nat.le_trans (ih zo) (hm e)
  ·obtain rfl:d=e+1:=by omega
   exact Nat.le_refl _
theorem CountVal.zero{T:Nat→Nat}(hm:∀d,T d≤T (d+1))(h:CountVal T 0):∀d,T d=0:=by
 rcases h with ⟨n,⟨D,hD⟩,h2⟩ | ⟨_,h⟩
 ·have hn:n=0:=by
   unfold MAXC at h2;omega
  subst hn;intro d;have h3:=mono_le hm (show d≤max d D by omega);have h4:=hD (max d D) zo;omega
 ·cases h
theorem CountVal.some{T:Nat→Nat}{c:Int}(h:CountVal T c)(hc:c≠0):∃d,1≤T d:=by
 rcases h with ⟨n,⟨D,hD⟩,h2⟩ | ⟨h,_⟩
 ·refine⟨D,?_⟩;rw[hD D (Nat.le_refl _)];rcases Nat.eq_zero_or_pos n with e | e
  ·subst e;exact absurd h2 (by simpa using hc)
  ·exact e
 ·exact h 1
end Go.Proofs.D
set_option linter.unusedVariables false
set_option maxRecDepth 20000
set_option maxHeartbeats 0
open Go Go.Abs Go.Proofs Go.Proofs.D
namespace Go.Abs
section
variable {C:Ctx}{T:RT}{n:Nat}{k:Kno}{F:Frz}{own:Own}{ops rest:List Oper}{o:Oper}{Q:Kno→Frz→Own→List Rec→Prop}{args':List Value}
theorem firstZ{h:Heap}{s m c:Nat}{a:Option Addr}(ha:∀p,a=some p→p.spot=none):firstA h s 0 (.slice a m c)=some []:=by
 match a,ha with
 | none,_=>rfl
 | some ⟨b,off,none⟩,_=>rfl
 | some ⟨b,off,some _⟩,ha=>have:=ha _ rfl;cases this
theorem WT.appendA{α:Type}{R:Ty α}(hT:rowsOk C T=true)(p:Nat){B:List (Nat×Blk)}{upd:List (Nat×Blk)→Own}{a b2:Option Addr}{m c d c2 by_:Nat}{xs ys:List α}{t e t2 e2:Nat}{r r2:Row}{z:Value}{xo so:Operand}
  (hb:Bld R F a m c B xs) (hy:Arr R F b2 d c2 ys) (hp:own[p]?=some B) (hupd:∀B',setO own p B'=some (upd B')) (hop:o.op=.call ⟨.builtin .append,⟨[so,xo]⟩,⟨[t,t2]⟩⟩) (hw:wantK ops k o=some true) {dst:Nat} (hdst:o.dst=some dst) (hn:Nat.blt dst n=true)
  (hs:evK C k so=some (.slice a m c)) (hx:evK C k xo=some (.slice b2 d c2)) (hr:rowOf T t=some r) (hd:r.d=.slice e) (hsz:sizeT T e=some R.size) (hz:zeroT T e=some z) (hby:bytesT T e=some by_)
  (hr2:rowOf T t2=some r2) (hd2:r2.d=.slice e2) (hpos:0<R.size∧0<by_) (hroom:(m+d)*by_≤140737488355328)
  (h:∀a' c' B',Bld R F a' (m+d) c' B' (xs++ys)→WT C n ops rest ((dst,.slice a' (m+d) c')::k) F (upd B') (fun k2 F2 own2 rs=>Q k2 F2 own2 (⟨F,own,F,upd B',[]⟩::rs))) :
  WT C n ops (o::rest) k F own Q:=by
 by_cases hd0:d=0
 ·subst hd0;obtain rfl:ys=[]:=List.eq_nil_of_length_eq_zero hy.len.symm;have e:upd B=own:=by
   rw[←setO_ok _ _ _ _ (hupd B)];obtain⟨hlt,rfl⟩:=gS hp;exact List.set_getElem_self hlt
  have:=h a c B (by simpa using hb);rw[e] at this;exact WT.append0 hT hop hw hdst hn hs hx hr hd hsz hz hby hr2 hd2 (fun h0 s0=>firstZ hy.spot) hpos (by simpa using hroom) this
 ·obtain⟨ds,hds,hcs⟩:=news_arr hT hy hr2 hd2 e;exact WT.appendT hT p hb hp hupd hop hw hdst hn hs hx hr hd hsz hz hby (fun h0 s0=>hds _ h0 s0) hcs hy.len ⟨by omega,hpos⟩ hroom h
end
end Go.Abs
namespace Go.Proofs.D
def rankL(k:Key):List Nat:=[k.frm,k.to,if k.sym.term=true then 0 else 1,k.sym.n]
theorem rank_lt{x y:Key}(h:ltKey x y=true):cmpNats (rankL x) (rankL y)<0:=by
 rw[ltKey_iff] at h;obtain⟨⟨xt,xn⟩,xf,xo⟩:=x;obtain⟨⟨yt,yn⟩,yf,yo⟩:=y;rw[cmpSym_lt] at h;simp only at h;unfold rankL;simp only[cmpNats,cmpInt];cases xt<;>cases yt<;>simp at h ⊢<;>repeat' split<;>omega
def tBool:Ty Bool where
 size:=1
 rel:=fun _ l x=>l=[.bool x]
 len:=fun _ _ _ h=>by subst h;rfl
 one:=fun _ _ _ h=>by subst h;rfl
 mono:=fun _ _ _ _ _ h=>h
def Chain(to:Nat):List Sym→Nat→List Key→Prop
 | [],i,ks=>ks=[]∧i=to
 | s::l,i,ks=>∃q ks',ks=q::ks'∧q.sym=s∧q.frm=i∧Chain to l q.to ks'
structure PackOk(g:Gram)(S:List Key)(k:Key)(p:NPack)(kp:KPack):Prop where
 num:p=numPack S kp
 rule:∃r,g.rules[kp.rule]?=some r∧r.left=k.sym.n∧Chain k.to r.right k.frm kp.kids
 ins:∀q∈kp.kids,q∈S
structure NodeOk(g:Gram)(w:List Nat)(S:List Key)(k:Key)(x:Node):Prop where
 key:x.key=k
 term:k.sym.term=true→k.to=k.frm+1∧k.to≤w.length∧w[k.frm]?=some k.sym.n∧x.packs=[]
 non:k.sym.term=false→x.packs≠[]
 pack:∀p∈x.packs,∃kp,PackOk g S k p kp
 sorted:x.packs.Pairwise fun x y=>cmpNPack x y<0
theorem mask32{x:Nat}(h:x<4294967296):intBinA .and .u64 (x:Int) 4294967295=some (.int .u64 (x:Int)):=by
 have:=and64 (x:=x) (y:=4294967295) zo (by decide)
 rw[show x &&& 4294967295=x by
  have:=Nat.and_two_pow_sub_one_eq_mod x 32;rw[show 2 ^ 32-1=4294967295 from rfl] at this;rw[this];exact Nat.mod_eq_of_lt h] at this
 exact this
theorem sh32z{x:Nat}(h:x<4294967296):shiftA .shr .u64 (x:Int) 32=some (.int .u64 0):=by
 have:=shr64 (x:=x) (y:=32) (by decide);rw[Nat.div_eq_of_lt (by exact h)] at this;exact this
theorem mulz(y:Nat):intBinA .mul .u64 0 (y:Int)=some (.int .u64 0):=by
 have:=mul64 0 y;rw[Nat.zero_mul] at this;exact this
theorem zmul(y:Nat):intBinA .mul .u64 (y:Int) 0=some (.int .u64 0):=by
 have:=mul64 y 0;rw[Nat.mul_zero] at this;exact this
theorem muls{x y:Nat}(h:x*y<18446744073709551616):intBinA .mul .u64 (x:Int) (y:Int)=some (.int .u64 ((x*y:Nat):Int)):=by
 rw[mul64,Nat.mod_eq_of_lt h]
theorem mul64_spec(F:Frz)(x y:Nat)(hx:x<65536)(hy:y<65536):Abs.Spec CC 169 [.int .u64 x,.int .u64 y] F [] fun _ v o=>o=[]∧v=.tuple ⟨[.int .u64 0,.int .u64 ((x*y:Nat):Int)]⟩:=by
 have hxy:x*y<4294967296:=Nat.mul_lt_mul'' hx hy;refine Abs.Spec.fn (n:=51) Tryz.func169 rfl rfl fun own=>?_;refine zB4 ?_;refine WT.binV Z Z Z Z Z Z (by decide) (mask32 zo) ?_;refine zB4 ?_;refine WT.shV Z Z Z Z Z Z (by decide) (sh32z zo) ?_;refine zB4 ?_;refine WT.binV Z Z Z Z Z Z (by decide) (mask32 zo) ?_;refine zB4 ?_;refine WT.shV Z Z Z Z Z Z (by decide) (sh32z zo) ?_;refine zB4 ?_;refine WT.binV Z Z Z Z Z Z (by decide) (muls zo) ?_;refine zB4 ?_;refine WT.binV Z Z Z Z Z Z (by decide) (mulz y) ?_;refine zB4 ?_;refine WT.shV Z Z Z Z Z Z (by decide) (sh32z hxy) ?_
 refine WT.binV (v:=.int .u64 0) Z Z Z Z Z Z (by decide) Z ?_;refine zB4 ?_;refine WT.binV (v:=.int .u64 0) Z Z Z Z Z Z (by decide) Z ?_;refine zB4 ?_;refine WT.shV (v:=.int .u64 0) Z Z Z Z Z Z (by decide) Z ?_;refine zB4 ?_;refine WT.binV Z Z Z Z Z Z (by decide) (zmul x) ?_;refine WT.binV (v:=.int .u64 0) Z Z Z Z Z Z (by decide) Z ?_;refine zB4 ?_;refine WT.binV (v:=.int .u64 0) Z Z Z Z Z Z (by decide) Z ?_;refine zB4 ?_;refine WT.binV (v:=.int .u64 0) Z Z Z Z Z Z (by decide) Z ?_;refine zB4 ?_;refine WT.shV (v:=.int .u64 0) Z Z Z Z Z Z (by decide) Z ?_
 refine WT.binV (v:=.int .u64 0) Z Z Z Z Z Z (by decide) Z ?_;refine zB4 ?_;refine WT.binV Z Z Z Z Z Z (by decide) (muls zo) ?_;refine zB4 ?_;exact AW.ret ⟨_,[],⟨_,_,rfl,⟨_,_,rfl,rfl,rfl⟩,rfl⟩,zsb,rfl,rfl⟩
theorem mul_spec(F:Frz)(x y:Nat)(hx:x<65536)(hy:y<65536):Abs.Spec CC 149 [.int .u64 x,.int .u64 y] F [] fun _ v o=>o=[]∧v=.tuple ⟨[.int .u64 0,.int .u64 ((x*y:Nat):Int)]⟩:=by
 refine Abs.Spec.fn (n:=30) Tryz.func149 rfl rfl fun own=>?_;refine zB4 ?_;refine AW.cond Z (fun h=>(by cases h)) (fun _=>?_);refine zB4 ?_;refine WT.callV Tryz.func169 Z Z Z Z Z Z (mul64_spec _ x y hx hy) (fun v hv=>?_);subst hv;refine zB4 ?_;exact AW.ret ⟨_,[],⟨_,_,rfl,⟨_,_,rfl,rfl,rfl⟩,rfl⟩,zsb,rfl,rfl⟩
theorem repeat_spec(F:Frz){b:Nat}{ro:Bool}{z:Int}(hb:F b=some (.cells ro [.int .i64 z]))(n:Nat)(hn:n<65536) :
  Abs.Spec CC 113 [.slice (some ⟨b,0,none⟩) 1 1,.int .i64 n] F [] fun F' v o=>∃B',o=[B']∧∃i,v=.slice (some ⟨i,0,none⟩) n (bif n==0 then 0 else 1)∧B'=[(i,.cells false (List.replicate n (.int .i64 z)))]:=by
 refine Abs.Spec.fn (n:=48) Tryz.func113 rfl rfl fun own=>?_;refine zB4 ?_;refine AW.cond Z (fun h=>(by simp at h;omega)) (fun _=>?_);refine zB4 ?_;refine WT.conv hT (k2:=.u64) Z Z Z Z Z Z Z Z (wrapU64 (by decide)) ?_
 refine zB4 ?_;refine WT.conv hT (k2:=.u64) Z Z Z Z Z Z Z Z (wrapU64 zo) ?_
 refine WT.callV Tryz.func149 Z Z Z Z Z Z (mul_spec _ 1 n (by decide) hn) (fun v hv=>?_);rw[Nat.one_mul] at hv;subst hv
 (iterate 5 (refine WT.easy hT Z Z Z Z Z ?_))
 refine WT.nil ?_;refine AW.seq (AW.seq (AW.reg ?_))
 (iterate 4 (refine WT.easy hT Z Z Z Z Z ?_))
 refine WT.binV (v:=.bool false) Z Z Z Z Z Z (by decide) ?_ ?_
 ·simp only[intBinA,Option.some.injEq,Value.bool.injEq,decide_eq_false_iff_not];omega
 refine zB4 ?_;refine AW.cond Z (fun h=>(by cases h)) (fun _=>?_);refine zB4 ?_;refine WT.conv hT (k2:=.i64) Z Z Z Z Z Z Z Z (wrap64 zo) ?_
 refine WT.makeT (by_:=8) hT Z Z Z Z Z Z Z Z Z Z Z Z zo (fun i7 hi7=>?_);refine zB4 ?_;by_cases hn0:n=0
 ·subst hn0;refine WT.copy0 hT Z Z Z Z Z Z (fun p hp=>by cases hp;rfl) Z Z Z Z ?_;refine zB4 ?_;refine AW.block ?_;refine AW.loopR (S:=Unit) (fun _=>[]) (fun _=>_) (fun _ _=>True) (fun _=>0) () sM oR trivial ?_;intro _ F2 hF2 _;refine zB4 ?_;refine AW.cond Z (fun h=>(by cases h)) (fun h=>?_);refine AW.exit ?_;refine zB4 ?_;exact AW.ret ⟨_,[_],⟨_,_,rfl,rfl,rfl⟩,zsb,_,rfl,_,rfl,rfl⟩
 ·have hmin:Nat.min 1 n=1:=Nat.min_eq_left zo;refine WT.copyOwn (m:=1) (new:=[.int .i64 z]) hT 0 Z Z Z Z Z Z Z Z Z Z Z (fun h0 s0=>?_) Z (by simp) (by simp;omega) Z ?_
  ·rw[hmin];simp[firstA,cellsAt,s0.frz _ _ hb,partL]
  refine WT.know (v':=.int .i64 ((1:Nat):Int)) 33 Z (by rw[hmin]) ?_;refine zB4 ?_;refine AW.block ?_;refine AW.loopR (S:=Nat) (fun j=>[(8,.int .i64 (j:Nat))]) (fun j=>[(i7,.cells false (List.replicate j (.int .i64 z)++List.replicate (n-j) (.int .i64 0)))]::own) (fun j _=>1≤j∧j≤n) (fun j=>n-j) 1
   sM (OwnLe.flat (List.Perm.of_eq ?_)) ⟨Nat.le_refl _,by omega⟩ ?_
  ·have:=spliceL_rep (x:=.int .i64 z) (z:=.int .i64 0) 0 n 1 zo;simp only[List.replicate_zero,List.nil_append,Nat.zero_add] at this;rw[←this];rfl
  intro j F2 hF2 ⟨hj1,hj2⟩;refine zB4 ?_;refine AW.cond Z (fun h=>?_) (fun h=>?_)
  ·have h:j<n:=by simpa using h
   refine zB4 ?_;refine AW.block ?_;refine AW.draw (ps:=[]) Z Z ?_;refine zB4 ?_;refine WT.slice Z Z Z Z Z Z Z Z (fun h0=>sliceA_some (lo:=j) (hi:=n) hT Z Z Z Z Z zo (Nat.le_refl _) (by cases n<;>simp) h0) ?_;refine zB4 ?_;refine WT.slice Z Z Z Z Z Z Z Z (fun h0=>sliceA_some (lo:=0) (hi:=j) hT Z Z Z Z Z (Nat.zero_le _) zo (by cases n<;>simp) h0) ?_;obtain⟨q,hq⟩:∃q,Nat.min (j-0) (n-j)=q:=⟨_,rfl⟩;have hq1:q≤n-j:=by rw[←hq];exact Nat.min_le_right _ _
   have hq2:q≤j:=by rw[←hq];exact Nat.min_le_left (j-0) (n-j)
   have hq3:0<q:=by
    have:0<min (j-0) (n-j):=by rw[Nat.lt_min];omega
    rw[←hq];exact this
   have hfit:0+j*1+(List.replicate q (Value.int .i64 z)).length≤(List.replicate j (Value.int .i64 z)++List.replicate (n-j) (Value.int .i64 0)).length:=by
    simp only[List.length_append,List.length_replicate];omega
   refine WT.copyOwn (m:=j-0) (new:=List.replicate q (.int .i64 z)) hT 0 Z Z Z Z Z Z Z Z Z Z Z (fun h0 s0=>?_) (by simp[Go.Abs.one]) (by intro e;have:=congrArg List.length e;simp at this;omega) hfit Z ?_
   ·have hb2:=s0.has (p:=0) rfl me;have e0:(q==0)=false:=by simpa using Nat.ne_of_gt hq3
    rw[hq];simp only[firstA,e0,cond_false,cellsAt,hb2,Nat.mul_one];exact partL_rep _ _ _ hq2
   rw[show 0+j*1=j by omega,spliceL_rep _ _ _ hq1,hq];refine WT.addT Z Z Z Z Z Z zo ?_;refine WT.know (v':=.int .i64 ((j+q:Nat):Int)) 46 Z (by rw[Int.natCast_add]) ?_;refine zB4 ?_;refine⟨j+q,by omega,sM,OwnLe.flat (List.Perm.of_eq ?_),by omega,by omega⟩;rw[show n-(j+q)=n-j-q by omega]
  ·have h:j=n:=by simp at h;omega
   subst h;refine AW.exit ?_;refine zB4 ?_;rw[Nat.sub_self];simp only[List.replicate_zero,List.append_nil];exact AW.ret ⟨_,[_],⟨_,_,rfl,rfl,rfl⟩,zsb,_,rfl,_,rfl,rfl⟩
theorem vec_rep{F:Frz}{i n:Nat}(z:Int):Vec tInt F (some ⟨i,0,none⟩) n (bif n==0 then 0 else 1) [(i,.cells false (List.replicate n (.int .i64 z)))] (List.replicate n z):=by
 refine⟨by simp,?_,fun h=>?_,fun h=>(by cases h),fun p hp=>(by cases hp;rfl),.inr ⟨i,_,rfl,rfl,?_,by decide⟩⟩
 ·cases n<;>simp[tInt]
 ·cases n with
  | zero=>rfl
  | succ n=>simp at h
 ·induction n with
  | zero=>exact .nil
  | succ n ih=>
   rw[List.replicate_succ,List.replicate_succ];exact Cells.cons (R:=tInt) (l:=[.int .i64 z]) rfl ih
theorem sumLen_snoc(O:List Int)(a:Int)(l:List Sym)(y:Sym):sumLen O a (l++[y])=stepLen O (sumLen O a l) y:=by
 unfold sumLen;rw[List.foldl_append];rfl
structure LSt where
 O:List Int
 B:List (Nat×Blk)
 again:Bool
theorem lengths_spec(F:Frz)(g:Gram)(hg:Valid g){a:Option Addr}{m c:Nat}(hr:Arr tRule F a m c g.rules) :
  Abs.Spec CC 76 [.agg ⟨gramCells g a m c⟩] F [] fun F' v o=>∃B',o=[B']∧∃O a' c',v=.slice a' g.nons c'∧Vec tInt F' a' g.nons c' B' O∧LenOk g.nons O∧LenSound g O∧∀r∈g.rules,LenClosed O r:=by
 unfold gramCells;have hrl:=hr.len;have hgn:=hg.range.nons;have hgr:=hg.range.rules;refine Abs.Spec.fn (n:=81) Tryz.func76 rfl rfl fun own=>?_;refine AW.seq (AW.reg ?_);refine WT.boxT Z Z Z Z Z Z (fun i1 hi1=>?_);refine zB4 ?_;refine WT.buildT hT Z Z Z Z Z Z Z Z Z Z Z Z Z Z (fun i11 hi11=>?_);refine WT.freezeAll 0 Z Z (fun F1 hF1 hB1=>?_);have hi11:=hB1 i11 _ me;refine zB4 ?_;refine WT.callN Tryz.func113 Z Z Z Z Z Z (repeat_spec _ hi11 g.nons zo) (fun F2 v B2 hF2 hv=>?_);obtain⟨io,rfl,rfl⟩:=hv;have hv0:=vec_rep (F:=F2) (i:=io) (n:=g.nons) (-1)
 have hc1:(bif g.nons==0 then 0 else 1)=1:=by rw[show (g.nons==0)=false by simp;omega];rfl
 rw[hc1] at hv0 ⊢;refine zB4 ?_
 have hO0:LenOk g.nons (List.replicate g.nons (-1)):=⟨by simp,fun x hx=>by rw[List.eq_of_mem_replicate hx];decide,fun x hx=>by
  rw[List.eq_of_mem_replicate hx];have:0<4 ^ knownN (List.replicate g.nons (-1)):=Nat.pow_pos (by decide);omega⟩
 have hS0:LenSound g (List.replicate g.nons (-1)):=fun n x hx h=>by
  rw[List.eq_of_mem_replicate (gM hx)] at h;exact absurd h (by decide)
 refine AW.block ?_;refine AW.loopR (S:=LSt) (fun s=>[(4,.bool s.again)]) (fun s=>s.B::[]::[(i1,.cells false [.int .i64 g.terms,.int .i64 g.nons,.int .i64 g.start,.slice a m c])]::own)
  (fun s G=>Vec tInt G (some ⟨io,0,none⟩) g.nons 1 s.B s.O∧LenOk g.nons s.O∧LenSound g s.O∧(s.again=false→∀r∈g.rules,LenClosed s.O r)) (fun s=>2*wgtsLen s.O+(if s.again then 1 else 0)) ⟨_,_,true⟩
  sM oR ⟨hv0,hO0,hS0,fun h=>by cases h⟩ ?_
 intro s F3 hF3 hP;obtain⟨hv,hO,hS,hcl⟩:=hP;refine zB4 ?_;refine AW.cond Z (fun h=>?_) (fun h=>?_)
 ·have hag:s.again=true:=h;refine zB4 ?_;refine AW.block ?_;refine zB4 ?_;refine AW.range (S:=LSt) (fun t=>[(4,.bool t.again)]) (fun t=>t.B::[]::[(i1,.cells false [.int .i64 g.terms,.int .i64 g.nons,.int .i64 g.start,.slice a m c])]::own)
   (fun j t G=>Vec tInt G (some ⟨io,0,none⟩) g.nons 1 t.B t.O∧LenOk g.nons t.O∧LenSound g t.O∧wgtsLen t.O≤wgtsLen s.O∧(t.again=true→wgtsLen t.O<wgtsLen s.O)∧(t.again=false→∀r∈g.rules.take j,LenClosed t.O r)) m ⟨s.O,s.B,false⟩
   Z Z Z Z Z Z Z Z Z zo rfl rfl (fun _=>rfl) (fun _=>rfl) sM oR ⟨hv,hO,hS,Nat.le_refl _,fun h=>(by cases h),fun _ r hr=>by simp at hr⟩ ?_ ?_
  ·intro j t F4 hF4 hj hP;obtain⟨hv4,hO4,hS4,hw4,hw5,hcl4⟩:=hP;have hr4:=((hr.mono hF1).mono hF2).mono hF3;have hr4:=hr4.mono hF4;have hO4l:=hO4.len;have hmax:=hO4.max hgn.2;refine zB6 ?_;refine WT.idxL hT hr4 Z Z Z Z Z Z Z Z Z zo (fun r hrj b off ro cs lx hb1 hp1 hrel=>?_);obtain⟨ra,rn,rc,rfl,hra⟩:=hrel;have hral:=hra.len;obtain⟨hrleft,hrn,hry⟩:=hg.right r (gM hrj);refine zB6 ?_;refine WT.allocT hT Z Z Z Z Z Z (fun i6 hi6=>?_);refine zB6 ?_;refine AW.range (S:=Int) (fun x=>[(7,.int .i64 x)]) (fun _=>_) (fun q x G=>x=sumLen t.O 0 (r.right.take q)) rn 0
    Z Z Z Z Z Z Z Z Z zo rfl rfl (fun _=>rfl) (fun _=>rfl) sM oR rfl ?_ ?_
   ·intro q x F5 hF5 hq hx;have hra5:=hra.mono hF5;have hv5:=hv4.mono hF5;have hlim:sumLen t.O 0 (r.right.take q)≤4*1048576:=by
     have h1:=sumLen_le (M:=1048576) (by decide) hmax (r.right.take q);have h2:((r.right.take q).length:Int)*1048576≤4*1048576:=Int.mul_le_mul_of_nonneg_right (by simp;omega) (by decide);omega
    have hge:=sumLen_ge (O:=t.O) (r.right.take q) 0 (by decide);rw[←hx] at hlim hge;refine zB6 ?_;refine WT.idxL hT hra5 Z Z Z Z Z Z Z Z Z zo (fun y hyq b3 off3 ro3 cs3 lx3 hb3 hp3 hrel3=>?_);obtain rfl:lx3=_:=hrel3;have hyok:=hry y (gM hyq);have hst:∀z,stepLen t.O x y=z→z=sumLen t.O 0 (r.right.take (q+1)):=by
     rintro z rfl;rw[List.take_add_one,hyq,hx];exact(sumLen_snoc ..).symm
    refine zB6 ?_;refine WT.allocT hT Z Z Z Z Z Z (fun i9 hi9=>?_);refine zB6 ?_;refine AW.block ?_;refine zB6 ?_;refine WT.split 33 Z (fun hterm=>?_) (fun hterm=>?_)
    ·refine zB6 ?_;refine AW.cond Z (fun h=>?_) (fun h=>?_)
     ·have h:0≤x:=by simpa using h
      refine zB6 ?_;exact⟨x+1,sM,zow,hst _ (by unfold stepLen;rw[if_pos ⟨hterm,h⟩])⟩
     ·have h:¬0≤x:=by simpa using h
      refine zB6 ?_;refine WT.split 42 Z (fun h2=>absurd (by simpa using h2) h) (fun _=>?_);refine zB6 ?_;refine AW.cond Z (fun h=>(by cases h)) (fun _=>?_);refine zB6 ?_;exact⟨-1,sM,zow,hst _ (by unfold stepLen;rw[if_neg (fun h2=>h h2.2),if_neg (fun h2=>h h2.1)])⟩
    ·have hyn:y.n<g.nons:=by rw[SymOk,if_neg (by simp[hterm])] at hyok;exact hyok
     obtain⟨z,hz⟩:∃z,t.O[y.n]?=some z:=⟨_,gE zo⟩;have hzd:t.O.getD y.n (-1)=z:=by rw[List.getD_eq_getElem?_getD,hz];rfl
     have hzm:=hmax z (gM hz);refine zB6 ?_;refine AW.cond Z (fun h=>(by cases h)) (fun _=>?_);refine zB6 ?_;refine WT.split 42 Z (fun h2=>?_) (fun h2=>?_)
     ·have h2:0≤x:=by simpa using h2
      refine zB6 ?_;refine WT.vidx hT hv5 Z Z Z Z Z Z Z Z Z hyn (fun b5 hb5=>?_);refine WT.vld1 hT 2 hv5 hb5 hz Z Z Z Z Z Z Z Z Z (fun l h=>h) ?_;refine zB6 ?_;refine AW.cond Z (fun h=>?_) (fun h=>?_)
      ·have h:0≤z:=by simpa using h
       refine zB6 ?_;refine WT.vidx hT hv5 Z Z Z Z Z Z Z Z Z hyn (fun b6 hb6=>?_);refine WT.vld1 hT 2 hv5 hb6 hz Z Z Z Z Z Z Z Z Z (fun l h=>h) ?_;refine zB6 ?_;exact⟨x+z,sM,zow,hst _ (by unfold stepLen;rw[if_neg (by simp[hterm]),if_pos (by rw[hzd];exact⟨h2,h⟩),hzd])⟩
      ·have h:¬0≤z:=by simpa using h
       refine zB6 ?_;exact⟨-1,sM,zow,hst _ (by unfold stepLen;rw[if_neg (by simp[hterm]),if_neg (by rw[hzd];exact fun h3=>h h3.2)])⟩
     ·have h2:¬0≤x:=by simpa using h2
      refine zB6 ?_;refine AW.cond Z (fun h=>(by cases h)) (fun _=>?_);refine zB6 ?_;exact⟨-1,sM,zow,hst _ (by unfold stepLen;rw[if_neg (by simp[hterm]),if_neg (fun h3=>h2 h3.1)])⟩
   ·intro x F5 hF5 hx;rw[List.take_of_length_le zo] at hx;have hv5:=hv4.mono hF5;obtain⟨z,hz⟩:∃z,t.O[r.left]?=some z:=⟨_,gE zo⟩;have hzd:t.O.getD r.left (-1)=z:=by rw[List.getD_eq_getElem?_getD,hz];rfl
    have keep:LenClosed t.O r→∀r'∈g.rules.take (j+1),(∀r'∈g.rules.take j,LenClosed t.O r')→LenClosed t.O r':=by
     intro h1 r' hr' h2;rw[List.take_add_one,hrj] at hr';rcases List.mem_append.1 hr' with h | h
     ·exact h2 r' h
     ·simp at h;subst h;exact h1
    refine zB6 ?_;refine WT.vidx hT hv5 Z Z Z Z Z Z Z Z Z hrleft (fun b5 hb5=>?_);refine WT.vld1 hT 1 hv5 hb5 hz Z Z Z Z Z Z Z Z Z (fun l h=>h) ?_;refine zB6 ?_;have put:0≤x→(z<0∨x<z)→LenOk g.nons (t.O.set r.left x)∧LenSound g (t.O.set r.left x)∧wgtsLen (t.O.set r.left x)<wgtsLen t.O:=by
     intro h1 h2;subst hx;refine⟨hO4.put hrn hz h1 h2,hS4.put (gM hrj) h1,?_⟩;have:=(hO4.put hrn hz h1 h2).max hgn.2 (sumLen t.O 0 r.right) (gM (i:=r.left) (by rw[List.getElem?_set_self zo]));exact wgts_put hz h1 this h2
    refine WT.split 65 Z (fun h1=>?_) (fun h1=>?_)
    ·have h1:0≤x:=by simpa using h1
     refine zB6 ?_;refine WT.split 68 Z (fun h2=>?_) (fun h2=>?_)
     ·have h2:z<0:=by simpa using h2
      refine zB6 ?_;refine AW.cond Z (fun _=>?_) (fun h=>(by cases h));refine zB6 ?_;refine WT.vidx hT hv5 Z Z Z Z Z Z Z Z Z hrleft (fun b6 hb6=>?_);refine WT.vst (y:=x) hT 1 hv5 hb6 hz Z Z Z Z Z Z Z (fun _=>rfl) Z (fun B6 hB6=>?_);refine zB6 ?_;obtain⟨p1,p2,p3⟩:=put h1 (.inl h2);exact⟨⟨t.O.set r.left x,B6,true⟩,sM,zow,hB6,p1,p2,by dsimp only;omega,fun _=>by dsimp only;omega,fun h=>by cases h⟩
     ·have h2:¬z<0:=by simpa using h2
      refine zB6 ?_;refine AW.cond Z (fun h=>?_) (fun h=>?_)
      ·have h:x<z:=by simpa using h
       refine zB6 ?_;refine WT.vidx hT hv5 Z Z Z Z Z Z Z Z Z hrleft (fun b6 hb6=>?_);refine WT.vst (y:=x) hT 1 hv5 hb6 hz Z Z Z Z Z Z Z (fun _=>rfl) Z (fun B6 hB6=>?_);refine zB6 ?_;obtain⟨p1,p2,p3⟩:=put h1 (.inr h);exact⟨⟨t.O.set r.left x,B6,true⟩,sM,zow,hB6,p1,p2,by dsimp only;omega,fun _=>by dsimp only;omega,fun h=>by cases h⟩
      ·have h:¬x<z:=by simpa using h
       refine zB6 ?_;exact⟨t,sM,zow,hv5,hO4,hS4,hw4,hw5,fun h3 r' hr'=>keep (fun _=>by rw[hzd,←hx];omega) r' hr' (hcl4 h3)⟩
    ·have h1:¬0≤x:=by simpa using h1
     refine zB6 ?_;refine AW.cond Z (fun h=>(by cases h)) (fun _=>?_);refine zB6 ?_;exact⟨t,sM,zow,hv5,hO4,hS4,hw4,hw5,fun h3 r' hr'=>keep (fun h4=>absurd (hx▸h4) h1) r' hr' (hcl4 h3)⟩
  ·intro t F4 hF4 hP;obtain⟨hv4,hO4,hS4,hw4,hw5,hcl4⟩:=hP;rw[List.take_of_length_le zo] at hcl4;refine⟨t,?_,sM,OwnLe.refl _,hv4,hO4,hS4,hcl4⟩;rw[hag];cases ht:t.again with
   | true=>have:=hw5 ht;simp;omega
   | false=>simp;omega
 ·have hag:s.again=false:=h;refine AW.exit ?_;refine zB4 ?_;refine AW.perm (perm_to2 _ _ _ _) ?_;exact AW.ret ⟨_,[_],⟨_,_,rfl,rfl,rfl⟩,zsb,_,rfl,s.O,_,_,rfl,hv,hO,hS,hcl hag⟩
end Go.Proofs.D