/-
  Walks: what functions of the program do, over the abstract machine.
-/
import Derived.Test.YtmbdmfjijofmmaaGreatDoorWk0
import Derived.Sort.LotD4
import Derived.Sort.Walk13a
set_option linter.unusedVariables false
set_option maxRecDepth 20000
set_option maxHeartbeats 0
open Go Go.Abs Go.Proofs Go.Proofs.D
set_option linter.unusedVariables false
set_option maxRecDepth 20000
set_option maxHeartbeats 0
open Go Go.Abs Go.Proofs Go.Proofs.D
namespace Go.Proofs.D
theorem pc(x k:Nat)(h:2 ^ k<=x):Go.Sort.bitsLen x=k+Go.Sort.bitsLen (x / 2 ^ k):=by
 apply Nat.le_antisymm
 ·rw[Go.Sort.bitsLen_le_iff];have h1:=Go.Sort.lt_two_pow_bitsLen (x / 2 ^ k);rw[Uq (SX k)] at h1;rw[Tj,SU];exact h1
 ·have h1:=Go.Sort.lt_two_pow_bitsLen x;have hk:k<=Go.Sort.bitsLen x:=by
   rcases Rw (Go.Sort.bitsLen x) k with h2 | h2
   ·have:=Rz (show 0<2 by decide) (R9 h2);omega
   ·exact h2
  have:Go.Sort.bitsLen (x / 2 ^ k)<=Go.Sort.bitsLen x-k:=by
   rw[Go.Sort.bitsLen_le_iff,Uq (SX k),<-Tj,Nat.sub_add_cancel hk];exact h1
  omega
theorem CL(F:ar)(x:Nat)(hx:x<4294967296):Abs.Spec CC 214 [.int .u64 x] F [] λ_ v o=>o=[]/\v=.int .i64 (Go.Sort.bitsLen x:Nat):=by
 have fin:∀(y n:Nat),y<256->n<=64->n+Go.Sort.bitsLen y=Go.Sort.bitsLen x->True:=λ_ _ _ _ _=>trivial;refine Abs.Spec.fn (n:=25) Tryz.func214 rfl rfl λown=>?_;refine aj ?_;refine AW.cond Z (λh=>(by simp at h;omega)) (λ_=>?_);refine AW.skip ?_;refine AW.jn (S:=Nat×Nat) (λs=>[(0,.int .u64 (s.1:Nat)),(2,.int .i64 (s.2:Nat))]) (λ_=>own) (λs _=>s.1<65536/\s.2<=16/\s.2+Go.Sort.bitsLen s.1=Go.Sort.bitsLen x) ?_ (λs F1 hF1 hP=>?_)
 ·refine aj ?_;refine AW.cond Z (λh=>?_) (λh=>?_)
  ·have h:65536<=x:=by simp at h;omega
   refine aj ?_;refine WT.It Z Z Z Z Z Z (by decide) (EF (y:=16) (by decide)) ?_;refine aj ?_;refine⟨(x / 2 ^ 16,16),sM,ah.refl _,?_,AS _,(pc x 16 h).symm⟩;show x / 65536<65536;omega
  ·have h:x<65536:=by simp at h;omega
   refine AW.skip ?_;exact⟨(x,0),sM,ah.refl _,h,RC _,by simp⟩
 ·obtain⟨h1,h2,h3⟩:=hP;refine AW.jn (S:=Nat×Nat) (λs=>[(0,.int .u64 (s.1:Nat)),(2,.int .i64 (s.2:Nat))]) (λ_=>own) (λs _=>s.1<256/\s.2<=24/\s.2+Go.Sort.bitsLen s.1=Go.Sort.bitsLen x) ?_ (λu F2 hF2 hP=>?_)
  ·refine aj ?_;refine AW.cond Z (λh=>?_) (λh=>?_)
   ·have h:256<=s.1:=by simp at h;omega
    refine aj ?_;refine WT.It Z Z Z Z Z Z (by decide) (EF (y:=8) (by decide)) ?_;refine aj ?_;refine⟨(s.1 / 2 ^ 8,s.2+8),sM,ah.refl _,?_,by dsimp only;omega,?_⟩
    ·show s.1 / 256<256;omega
    ·have:=pc s.1 8 h;dsimp only;omega
   ·have h:s.1<256:=by simp at h;omega
    refine AW.skip ?_;exact⟨s,sM,ah.refl _,h,by omega,h3⟩
  ·obtain⟨g1,g2,g3⟩:=hP;refine aj ?_;refine WT.conv hT (k2:=.u8) Z Z Z Z Z Z Z Z (MF zo) ?_
   have hb:Go.Sort.bitsLen u.1<=8:=(Go.Sort.bitsLen_le_iff _ _).2 g1;refine WT.HZ (m:=256) (f:=Go.Sort.bitsLen) hT Z Z Z Z Z Z Z Z g1 (by decide +kernel) ?_;refine WT.conv hT (k2:=.i64) Z Z Z Z Z Z Z Z (wrap64 zo) ?_
   refine aj ?_;refine AW.ret ⟨_,[],⟨_,_,rfl,rfl,rfl⟩,bU,rfl,?_⟩;rw[g3];rfl
theorem rX(F:ar)(x:Nat)(hx:x<4294967296):Abs.Spec CC 174 [.int .u64 x] F [] λ_ v o=>o=[]/\v=.int .i64 (Go.Sort.bitsLen x:Nat):=by
 refine Abs.Spec.fn (n:=8) Tryz.func174 rfl rfl λown=>?_;refine aj ?_;refine AW.cond Z (λh=>(by cases h)) (λ_=>?_);refine aj ?_;refine WT.bN Tryz.func214 Z Z Z Z Z Z (CL _ x hx) (λv hv=>?_);subst hv;refine aj ?_;exact AW.ret ⟨_,[],⟨_,_,rfl,rfl,rfl⟩,bU,rfl,rfl⟩
theorem Gm(F:ar)(x:Nat)(hx:x<=1000000):Abs.Spec CC 237 [.int .i64 x] F [] λ_ v o=>o=[]/\v=.int .u64 ((2 ^ Go.Sort.bitsLen x:Nat):Int):=by
 have hb : Go.Sort.bitsLen x <= 20 := (Go.Sort.bitsLen_le_iff _ _).2 (by
  have : 2 ^ 20 = 1048576 := rfl
  omega)
 have hp:2 ^ Go.Sort.bitsLen x<=2 ^ 20:=Rz (by decide) hb;have h20:2 ^ 20=1048576:=rfl;refine Abs.Spec.fn (n:=7) Tryz.func237 rfl rfl λown=>?_;refine aj ?_;refine WT.conv hT (k2:=.u64) Z Z Z Z Z Z Z Z (jD zo) ?_
 refine WT.bN Tryz.func174 Z Z Z Z Z Z (rX _ x zo) (λv hv=>?_);subst hv;have e:=Iv (x:=1) (y:=Go.Sort.bitsLen x) zo;rw[SW,TF zo] at e;refine WT.It Z Z Z Z Z Z (by decide) e ?_;refine aj ?_;exact AW.ret ⟨_,[],⟨_,_,rfl,rfl,rfl⟩,bU,rfl,rfl⟩
theorem Gy(F:ar)(ip r:Nat)(hr:r<18446744073709551616):Abs.Spec CC 238 [.pointer (some ⟨ip,0,none⟩)] F [[(ip,.cells false [.int .u64 r])]] λF' v o=>∃B',o=[B']/\v=.int .u64 (Go.Sort.xorNextN r:Nat)/\B'=[(ip,.cells false [.int .u64 (Go.Sort.xorNextN r:Nat)])]:=by
 obtain⟨a,ha⟩:∃a,r ^^^ (r*8192 % 18446744073709551616)=a:=⟨_,rfl⟩;obtain⟨b,hb⟩:∃b,a ^^^ (a / 128)=b:=⟨_,rfl⟩;obtain⟨c,hc⟩:∃c,b ^^^ (b*131072 % 18446744073709551616)=c:=⟨_,rfl⟩;have p:(18446744073709551616:Nat)=2 ^ 64:=by decide
 have ha2:a<18446744073709551616:=by rw[<-ha,p];exact Nat.xor_lt_two_pow zo zo
 have hb2:b<18446744073709551616:=by rw[<-hb,p];exact Nat.xor_lt_two_pow zo zo
 have hx:Go.Sort.xorNextN r=c:=by simp only[Go.Sort.xorNextN,ha,hb,hc]
 rw[hx];refine Abs.Spec.fn (n:=33) Tryz.func238 rfl rfl λown=>?_;refine aj ?_;refine WT.It Z Z Z Z Z Z (by decide) (Iv (y:=13) (by decide)) ?_;refine WT.lB Z Z Z Z Z Z (by decide) (HD hr (Nat.mod_lt _ (by decide))) ?_;rw[show r ^^^ (r*2 ^ 13 % 18446744073709551616)=a from ha];refine aj ?_;refine WT.It Z Z Z Z Z Z (by decide) (EF (y:=7) (by decide)) ?_;refine WT.lB Z Z Z Z Z Z (by decide) (HD ha2 (Uj (Uu _ _) ha2)) ?_;rw[show a ^^^ (a / 2 ^ 7)=b from hb];refine aj ?_;refine WT.It Z Z Z Z Z Z (by decide) (Iv (y:=17) (by decide)) ?_
 refine WT.lB Z Z Z Z Z Z (by decide) (HD hb2 (Nat.mod_lt _ (by decide))) ?_;rw[show b ^^^ (b*2 ^ 17 % 18446744073709551616)=c from hc];refine aj ?_;exact AW.ret ⟨_,[_],⟨_,_,rfl,rfl,rfl⟩,bU,_,rfl,rfl,rfl⟩
def JO{α:Type}[Inhabited α](a l md i0:Nat)(st:UInt64×Array α):Nat->UInt64×Array α
 | 0=>st
 | n+1=>Go.Sort.breakStep a l md (JO a l md i0 st n) (i0+n)
structure PS(α:Type) where
 a:Nat
 b:Nat
 lim:Nat
 wb:Bool
 wp:Bool
 d:Array α
 B:List (Nat×aD)
theorem Ae{α:Type}[Inhabited α](lt:α->α->Bool)(d:Array α){a b p:Nat}(h1:a<=p)(h2:p<b)(hb:b<=d.size):a<(Go.Sort.partitionEqual lt d a b p).1/\(Go.Sort.partitionEqual lt d a b p).1<=b:=by
 have:=Go.Sort.partEqLoop_spec lt a b _ (a+1) (b-1) (Go.Sort.swp d a p) (AS _) zo zo zo (by rw[Go.Sort.size_swp];exact hb) (λt h1 h2=>by omega) (λt h1 h2=>by omega);exact⟨this.1,this.2.1⟩
theorem CO{α:Type}[Inhabited α](lt:α->α->Bool)(d:Array α){a b p:Nat}(h1:a<=p)(h2:p<b)(hb:b<=d.size):a<=(Go.Sort.partition lt d a b p).1/\(Go.Sort.partition lt d a b p).1<b:=by
 have:=Go.Sort.partLoop_spec lt a b _ (a+1) (b-1) (Go.Sort.swp d a p) (AS _) zo zo zo (by rw[Go.Sort.size_swp];exact hb) (λt h1 h2=>by omega) (λt h1 h2=>by omega);rw[Go.Sort.partition_fst];exact⟨this.1,this.2.1⟩
theorem C0{α:Type}[Inhabited α]{lt:α->α->Bool}(h:Go.Sort.SWO lt)(xs:List α):(Go.Sort.sort lt xs.toArray).toList.Perm xs/\(Go.Sort.sort lt xs.toArray).toList.Pairwise (λx y=>lt y x=false):=by
 obtain⟨⟨h1,_,h2⟩,h3⟩:=Go.Sort.sort_sorts lt h xs.toArray;have hsz:(Go.Sort.sort lt xs.toArray).size=xs.length:=by rw[h1];simp
 refine⟨?_,?_⟩
 ·have e1:((Go.Sort.sort lt xs.toArray).extract 0 xs.toArray.size).toList=(Go.Sort.sort lt xs.toArray).toList:=by
   rw[show xs.toArray.size=(Go.Sort.sort lt xs.toArray).size by rw[h1],Array.extract_size]
  have e2:(xs.toArray.extract 0 xs.toArray.size).toList=xs:=by rw[Array.extract_size]
  rw[e1,e2] at h2;exact h2
 ·rw[List.pairwise_iff_getElem];intro i j hi hj hij;have hi':i<(Go.Sort.sort lt xs.toArray).size:=by simpa using hi
  have hj':j<(Go.Sort.sort lt xs.toArray).size:=by simpa using hj
  have:=h3 i j (RC _) hij (by rw[<-h1];exact hj');rw[getElem!_pos _ i hi',getElem!_pos _ j hj'] at this;simpa using this
instance:Inhabited Key:=⟨⟨⟨false,0⟩,0,0⟩⟩
def Oi(x y:Key):Bool:=decide (x.gU<y.gU\/(x.gU=y.gU/\(x.to<y.to\/(x.to=y.to/\iq x.sym y.sym<0))))
def EE:List Nat->List Nat->Int
 | [],[]=>0
 | [],_::_=>-1
 | _::_,[]=>1
 | a::l,b::m=>if dn a b=0 then EE l m else dn a b
structure rF where
 aA:Nat
 kids:List Nat
deriving DecidableEq
def MM:Ty rF where
 size:=2
 rel:=λF l x=>∃a n c,l=[.int .i64 x.aA,.slice a n c]/\bw eS F a n c x.kids/\x.kids.length<=1000000
 len:=λ_ _ _ h=>by obtain⟨a,n,c,rfl,_⟩:=h;rfl
 one:=λ_ _ _ h=>by obtain⟨a,n,c,rfl,_⟩:=h;rfl
 mono:=λ_ _ _ _ hF h=>by obtain⟨a,n,c,e,h,hb⟩:=h;exact⟨a,n,c,e,h.mono hF,hb⟩
def Hv(x y:rF):Int:=mQ [dn x.aA y.aA,EE x.kids y.kids]
inductive iM(g:af)(w:List Nat)(E:List (List Nat))(root:Key):Key->Prop
 | root:iM g w E root root
 | P3 {k q:Key} {p:ob}:iM g w E root k->p∈jI g w E k->q∈p.kids->iM g w E root q
theorem BR{g:af}{w:List Nat}{E:List (List Nat)}{k:Key}{p:ob}:p∈jI g w E k↔∃r,g.rules[p.aA]?=some r/\r.left=k.sym.n/\k.sym.term=false/\p.kids∈splits w E k.to r.right k.gU:=by
 unfold jI;rw[SM];constructor
 ·rintro⟨i,hi,hp⟩;unfold zI at hp;split at hp
  ·rename_i r hr;split at hp
   ·rename_i hc;obtain⟨ks,hks,rfl⟩:=Rg.1 hp;exact⟨r,hr,hc.1,hc.2,hks⟩
   ·cases hp
  ·cases hp
 ·rintro⟨r,hr,h1,h2,h3⟩;refine⟨p.aA,Rm.2 (gS hr).1,?_⟩;unfold zI;rw[hr];simp only;rw[If ⟨h1,h2⟩];exact Rg.2 ⟨p.kids,h3,by cases p;rfl⟩
structure Node where
 key:Key
 jC:List rF
def Nw:Ty Node where
 size:=5
 rel:=λF l x=>∃a n c,l=[.bool x.key.sym.term,.int .i64 x.key.sym.n,.int .i64 x.key.gU,.int .i64 x.key.to,.slice a n c]/\bw MM F a n c x.jC
 len:=λ_ _ _ h=>by obtain⟨a,n,c,rfl,_⟩:=h;rfl
 one:=λ_ _ _ h=>by obtain⟨a,n,c,rfl,_⟩:=h;rfl
 mono:=λ_ _ _ _ hF h=>by obtain⟨a,n,c,e,h⟩:=h;exact⟨a,n,c,e,h.mono hF⟩
def place(S:List Key)(k:Key):Nat:=S.idxOf k
def Ek(S:List Key)(p:ob):rF:=⟨p.aA,p.kids.map (place S)⟩
def mkNode(g:af)(w:List Nat)(E:List (List Nat))(S:List Key)(k:Key):Node:=⟨k,(jI g w E k).map (Ek S)⟩
structure GO(g:af)(w:List Nat)(E:List (List Nat))(root:Key)(S:List Key):Prop where
 sorted:S.Pairwise (λx y=>Oi x y=true)
 reach:∀k∈S,iM g w E root k
 first:root∈S
 closed:∀k∈S,∀p∈jI g w E k,∀q∈p.kids,q∈S
theorem GO.all{g:af}{w:List Nat}{E:List (List Nat)}{root:Key}{S:List Key}(h:GO g w E root S){k:Key}(hk:iM g w E root k):k∈S:=by
 induction hk with
 | root=>exact h.first
 | P3 _ hp hq ih=>exact h.closed _ ih _ hp _ hq
def Af(g:af)(w:List Nat)(E:List (List Nat))(L:List Key):Nat:=(L.map λk=>(jI g w E k).length).sum
structure IS where
 L:List Key
 a:Option Addr
 c:Nat
 B:List (Nat×aD)
 se:cQ Key
structure KS where
 a:Option Addr
 n:Nat
 c:Nat
 B:List (Nat×aD)
structure BS where
 i:Nat
 L:List Key
 a:Option Addr
 c:Nat
 B:List (Nat×aD)
 pe:cQ Key
 se:cQ Key
 Ar:Nat
structure PR(g:af)(w:List Nat)(E:List (List Nat))(root:Key)(L:List Key)(se:cQ Key):Prop where
 nd:L.Nodup
 first:root∈L
 reach:∀k∈L,iM g w E root k
 seen:∀k,Abs.look se k=if k∈L then some (.bool true) else none
structure Mu(g:af)(w:List Nat)(E:List (List Nat))(root:Key)(F:ar)(s:BS):Prop where
 l:PR g w E root s.L s.se
 jC:∀j k,j<s.i->s.L[j]?=some k->∃a n c,Abs.look s.pe k=some (.slice a n c)/\bw G7 F a n c (jI g w E k)
 closed:∀j k,j<s.i->s.L[j]?=some k->∀p∈jI g w E k,∀q∈p.kids,q∈s.L
 Ar:s.Ar=Af g w E (s.L.take s.i)
 le:s.i<=s.L.length
theorem Mu.mono{g:af}{w:List Nat}{E:List (List Nat)}{root:Key}{F G:ar}{s:BS}(h:Mu g w E root F s)(hF:ar.le F G):Mu g w E root G s:=
 ⟨h.l,λj k h1 h2=>by obtain⟨a,n,c,h3,h4⟩:=h.jC j k h1 h2;exact⟨a,n,c,h3,h4.mono hF⟩,h.closed,h.Ar,h.le⟩
def LH:List Nat->Nat
 | []=>1
 | a::l=>a*LH l
def NI(x:Node):Nat:=if x.key.sym.term=true then 1 else 0
def N9(f:Nat->Nat)(p:rF):Nat:=LH (p.kids.map f)
def EW(Ns:List Node):Nat->Nat->Nat
 | 0,_=>0
 | d+1,v=>match Ns[v]? with
  | some x=>NI x+(x.jC.map (N9 (EW Ns d))).sum
  | none=>0
def Ls(T:Nat->Nat)(c:Nat):Prop:=∃D,∀d,D<=d->T d=c
def OJ(Ns:List Node)(u v:Nat):Prop:=∃x p,Ns[v]?=some x/\p∈x.jC/\u∈p.kids
inductive Path(Ns:List Node):Nat->Nat->Prop
 | one {v u:Nat}:OJ Ns u v->Path Ns v u
 | step {v u z:Nat}:Path Ns v u->OJ Ns z u->Path Ns v z
theorem Path.trans{Ns:List Node}{a b c:Nat}(h:Path Ns a b)(h2:Path Ns b c):Path Ns a c:=by
 induction h2 with
 | one k=>exact .step h k
 | step _ k ih=>exact .step ih k
def Km(T:Nat->Nat):Prop:=∀B,∃d,B<=T d
section
variable {Ns:List Node}(hpr:∀v,v<Ns.length->∃d,1<=EW Ns d v)(hkid:∀u v,OJ Ns u v->u<Ns.length)
include hpr hkid
omit hkid in
end
def K5:Nat:=1000000000
def BI(T:Nat->Nat)(c:Int):Prop:=(∃n,Ls T n/\c=(min n K5:Nat))\/(Km T/\c=-1)
abbrev ci(x:Nat):Value:=.int .i64 (x:Int)
structure Mm(F:ar)(i1 i2 i3 i4 is ic cap:Nat)(na:Option Addr)(nn nc:Nat)(root:Int):Prop where
 st:F i1=some (.cells false [.slice (some ⟨is,0,none⟩) nn cap])
 f:F i2=some (.cells false [.slice na nn nc,.int .i64 root])
 ct:F i3=some (.cells false [.slice (some ⟨ic,0,none⟩) nn cap])
 self:F i4=some (.cells false [.func (.func 141) ⟨[]⟩ ⟨[.pointer (some ⟨i1,0,none⟩),.pointer (some ⟨i2,0,none⟩),.pointer (some ⟨i3,0,none⟩),.pointer (some ⟨i4,0,none⟩)]⟩])
theorem Mm.mono{F G:ar}{i1 i2 i3 i4 is ic cap:Nat}{na:Option Addr}{nn nc:Nat}{root:Int}(h:Mm F i1 i2 i3 i4 is ic cap na nn nc root)(hF:ar.le F G):Mm G i1 i2 i3 i4 is ic cap na nn nc root:=
 ⟨hF _ _ h.st,hF _ _ h.f,hF _ _ h.ct,hF _ _ h.self⟩
structure M8(Ns:List Node)(st ct:List Nat):Prop where
 l1:st.length=Ns.length
 l2:ct.length=Ns.length
 zero:∀u:Nat,st[u]?=some 0->ct[u]?=some 0
 done:∀u:Nat,st[u]?=some 2->∃c,Ls (λd=>EW Ns d u) c/\ct[u]?=some (min c K5)
 dx:∀(u x:Nat),st[u]?=some x->x<=2
 QT:∀(u x:Nat),ct[u]?=some x->x<=K5
structure ON(Ns:List Node)(st ct st' ct':List Nat)(v:Nat):Prop where
 inv:M8 Ns st' ct'
 at_:st'[v]?=some 2
 cw:∀(u x:Nat),st[u]?=some x->x≠0->st'[u]?=some x/\ct'[u]?=ct[u]?
 new:∀u:Nat,st'[u]?=some 1->st[u]?=some 1
 Ng:st'.count 0<=st.count 0
structure QY(Ns:List Node):Prop where
 m5:Ns.length<=1000000
 jC:∀x∈Ns,x.jC.length<=1000000
 P3:∀u v,OJ Ns u v->u<Ns.length
structure PW(Ns:List Node)(st ct:List Nat)(v:Nat)(s c:List Nat)(val:Nat):Prop where
 inv:M8 Ns s c
 at_:s[v]?=some 1
 cw:∀(u y:Nat),st[u]?=some y->y≠0->s[u]?=some y/\c[u]?=ct[u]?
 new:∀u:Nat,s[u]?=some 1->u=v\/st[u]?=some 1
 Ng:s.count 0<st.count 0
 val:c[v]?=some (min val K5)
structure Q1 where
 st:List Nat
 ct:List Nat
 x:Nat
def Prod(Ns:List Node):Prop:=∀v,v<Ns.length->∃d,1<=EW Ns d v
end Go.Proofs.D