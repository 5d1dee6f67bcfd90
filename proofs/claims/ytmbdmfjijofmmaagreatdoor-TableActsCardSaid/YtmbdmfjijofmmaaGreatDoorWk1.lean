/-
  Walks: what functions of the program do, over the abstract machine.
-/
import Derived.Test.YtmbdmfjijofmmaaGreatDoorWk0
import Derived.Sort.LotD4
import Derived.Sort.Walk13a
set_option linter.unusedVariables false
set_option maxRecDepth 20000
set_option maxHeartbeats 0
open Go Go.Abs Go.Proofs Go.Proofs.D
set_option linter.unusedVariables false
set_option maxRecDepth 20000
set_option maxHeartbeats 0
open Go Go.Abs Go.Proofs Go.Proofs.D
namespace Go.Proofs.D
theorem bitsLen_shift(x k:Nat)(h:2 ^ k≤x):Go.Sort.bitsLen x=k+Go.Sort.bitsLen (x / 2 ^ k):=by
 apply Nat.le_antisymm
 ·rw[Go.Sort.bitsLen_le_iff];have h1:=Go.Sort.lt_two_pow_bitsLen (x / 2 ^ k);rw[Nat.div_lt_iff_lt_mul (Nat.two_pow_pos k)] at h1;rw[Nat.pow_add,Nat.mul_comm];exact h1
 ·have h1:=Go.Sort.lt_two_pow_bitsLen x;have hk:k≤Go.Sort.bitsLen x:=by
   rcases Nat.lt_or_ge (Go.Sort.bitsLen x) k with h2 | h2
   ·have:=Nat.pow_le_pow_right (show 0<2 by decide) (Nat.le_of_lt h2);omega
   ·exact h2
  have:Go.Sort.bitsLen (x / 2 ^ k)≤Go.Sort.bitsLen x-k:=by
   rw[Go.Sort.bitsLen_le_iff,Nat.div_lt_iff_lt_mul (Nat.two_pow_pos k),←Nat.pow_add,Nat.sub_add_cancel hk];exact h1
  omega
theorem len64_spec(F:Frz)(x:Nat)(hx:x<4294967296):Abs.Spec CC 214 [.int .u64 x] F [] fun _ v o=>o=[]∧v=.int .i64 (Go.Sort.bitsLen x:Nat):=by
 have fin:∀(y n:Nat),y<256→n≤64→n+Go.Sort.bitsLen y=Go.Sort.bitsLen x→True:=fun _ _ _ _ _=>trivial;refine Abs.Spec.fn (n:=25) Tryz.func214 rfl rfl fun own=>?_;refine zC4 ?_;refine AW.cond Z (fun h=>(by simp at h;omega)) (fun _=>?_);refine AW.skip ?_;refine AW.jn (S:=Nat×Nat) (fun s=>[(0,.int .u64 (s.1:Nat)),(2,.int .i64 (s.2:Nat))]) (fun _=>own) (fun s _=>s.1<65536∧s.2≤16∧s.2+Go.Sort.bitsLen s.1=Go.Sort.bitsLen x) ?_ (fun s F1 hF1 hP=>?_)
 ·refine zC4 ?_;refine AW.cond Z (fun h=>?_) (fun h=>?_)
  ·have h:65536≤x:=by simp at h;omega
   refine zC4 ?_;refine WT.shV Z Z Z Z Z Z (by decide) (shr64 (y:=16) (by decide)) ?_;refine zC4 ?_;refine⟨(x / 2 ^ 16,16),sM,OwnLe.refl _,?_,Nat.le_refl _,(bitsLen_shift x 16 h).symm⟩;show x / 65536<65536;omega
  ·have h:x<65536:=by simp at h;omega
   refine AW.skip ?_;exact⟨(x,0),sM,OwnLe.refl _,h,Nat.zero_le _,by simp⟩
 ·obtain⟨h1,h2,h3⟩:=hP;refine AW.jn (S:=Nat×Nat) (fun s=>[(0,.int .u64 (s.1:Nat)),(2,.int .i64 (s.2:Nat))]) (fun _=>own) (fun s _=>s.1<256∧s.2≤24∧s.2+Go.Sort.bitsLen s.1=Go.Sort.bitsLen x) ?_ (fun u F2 hF2 hP=>?_)
  ·refine zC4 ?_;refine AW.cond Z (fun h=>?_) (fun h=>?_)
   ·have h:256≤s.1:=by simp at h;omega
    refine zC4 ?_;refine WT.shV Z Z Z Z Z Z (by decide) (shr64 (y:=8) (by decide)) ?_;refine zC4 ?_;refine⟨(s.1 / 2 ^ 8,s.2+8),sM,OwnLe.refl _,?_,by dsimp only;omega,?_⟩
    ·show s.1 / 256<256;omega
    ·have:=bitsLen_shift s.1 8 h;dsimp only;omega
   ·have h:s.1<256:=by simp at h;omega
    refine AW.skip ?_;exact⟨s,sM,OwnLe.refl _,h,by omega,h3⟩
  ·obtain⟨g1,g2,g3⟩:=hP;refine zC4 ?_;refine WT.conv hT (k2:=.u8) Z Z Z Z Z Z Z Z (wrapU8 zo) ?_
   have hb:Go.Sort.bitsLen u.1≤8:=(Go.Sort.bitsLen_le_iff _ _).2 g1;refine WT.indexStr (m:=256) (f:=Go.Sort.bitsLen) hT Z Z Z Z Z Z Z Z g1 (by decide +kernel) ?_;refine WT.conv hT (k2:=.i64) Z Z Z Z Z Z Z Z (wrap64 zo) ?_
   refine zC4 ?_;refine AW.ret ⟨_,[],⟨_,_,rfl,rfl,rfl⟩,zsb,rfl,?_⟩;rw[g3];rfl
theorem blen_spec(F:Frz)(x:Nat)(hx:x<4294967296):Abs.Spec CC 174 [.int .u64 x] F [] fun _ v o=>o=[]∧v=.int .i64 (Go.Sort.bitsLen x:Nat):=by
 refine Abs.Spec.fn (n:=8) Tryz.func174 rfl rfl fun own=>?_;refine zC4 ?_;refine AW.cond Z (fun h=>(by cases h)) (fun _=>?_);refine zC4 ?_;refine WT.callV Tryz.func214 Z Z Z Z Z Z (len64_spec _ x hx) (fun v hv=>?_);subst hv;refine zC4 ?_;exact AW.ret ⟨_,[],⟨_,_,rfl,rfl,rfl⟩,zsb,rfl,rfl⟩
theorem npow_spec(F:Frz)(x:Nat)(hx:x≤1000000):Abs.Spec CC 237 [.int .i64 x] F [] fun _ v o=>o=[]∧v=.int .u64 ((2 ^ Go.Sort.bitsLen x:Nat):Int):=by
 have hb : Go.Sort.bitsLen x ≤ 20 := (Go.Sort.bitsLen_le_iff _ _).2 (by have : 2 ^ 20 = 1048576 := rfl
                                                                        omega)
 have hp:2 ^ Go.Sort.bitsLen x≤2 ^ 20:=Nat.pow_le_pow_right (by decide) hb;have h20:2 ^ 20=1048576:=rfl;refine Abs.Spec.fn (n:=7) Tryz.func237 rfl rfl fun own=>?_;refine zC4 ?_;refine WT.conv hT (k2:=.u64) Z Z Z Z Z Z Z Z (wrapU64 zo) ?_
 refine WT.callV Tryz.func174 Z Z Z Z Z Z (blen_spec _ x zo) (fun v hv=>?_);subst hv;have e:=shl64 (x:=1) (y:=Go.Sort.bitsLen x) zo;rw[Nat.one_mul,Nat.mod_eq_of_lt zo] at e;refine WT.shV Z Z Z Z Z Z (by decide) e ?_;refine zC4 ?_;exact AW.ret ⟨_,[],⟨_,_,rfl,rfl,rfl⟩,zsb,rfl,rfl⟩
theorem xorn_spec(F:Frz)(ip r:Nat)(hr:r<18446744073709551616):Abs.Spec CC 238 [.pointer (some ⟨ip,0,none⟩)] F [[(ip,.cells false [.int .u64 r])]] fun F' v o=>∃B',o=[B']∧v=.int .u64 (Go.Sort.xorNextN r:Nat)∧B'=[(ip,.cells false [.int .u64 (Go.Sort.xorNextN r:Nat)])]:=by
 obtain⟨a,ha⟩:∃a,r ^^^ (r*8192 % 18446744073709551616)=a:=⟨_,rfl⟩;obtain⟨b,hb⟩:∃b,a ^^^ (a / 128)=b:=⟨_,rfl⟩;obtain⟨c,hc⟩:∃c,b ^^^ (b*131072 % 18446744073709551616)=c:=⟨_,rfl⟩;have p:(18446744073709551616:Nat)=2 ^ 64:=by decide
 have ha2:a<18446744073709551616:=by rw[←ha,p];exact Nat.xor_lt_two_pow zo zo
 have hb2:b<18446744073709551616:=by rw[←hb,p];exact Nat.xor_lt_two_pow zo zo
 have hx:Go.Sort.xorNextN r=c:=by simp only[Go.Sort.xorNextN,ha,hb,hc]
 rw[hx];refine Abs.Spec.fn (n:=33) Tryz.func238 rfl rfl fun own=>?_;refine zC4 ?_;refine WT.shV Z Z Z Z Z Z (by decide) (shl64 (y:=13) (by decide)) ?_;refine WT.binV Z Z Z Z Z Z (by decide) (xor64 hr (Nat.mod_lt _ (by decide))) ?_;rw[show r ^^^ (r*2 ^ 13 % 18446744073709551616)=a from ha];refine zC4 ?_;refine WT.shV Z Z Z Z Z Z (by decide) (shr64 (y:=7) (by decide)) ?_;refine WT.binV Z Z Z Z Z Z (by decide) (xor64 ha2 (Nat.lt_of_le_of_lt (Nat.div_le_self _ _) ha2)) ?_;rw[show a ^^^ (a / 2 ^ 7)=b from hb];refine zC4 ?_;refine WT.shV Z Z Z Z Z Z (by decide) (shl64 (y:=17) (by decide)) ?_
 refine WT.binV Z Z Z Z Z Z (by decide) (xor64 hb2 (Nat.mod_lt _ (by decide))) ?_;rw[show b ^^^ (b*2 ^ 17 % 18446744073709551616)=c from hc];refine zC4 ?_;exact AW.ret ⟨_,[_],⟨_,_,rfl,rfl,rfl⟩,zsb,_,rfl,rfl,rfl⟩
def bsN{α:Type}[Inhabited α](a l md i0:Nat)(st:UInt64×Array α):Nat→UInt64×Array α
 | 0=>st
 | n+1=>Go.Sort.breakStep a l md (bsN a l md i0 st n) (i0+n)
structure PS(α:Type) where
 a:Nat
 b:Nat
 lim:Nat
 wb:Bool
 wp:Bool
 d:Array α
 B:List (Nat×Blk)
theorem partEq_range{α:Type}[Inhabited α](lt:α→α→Bool)(d:Array α){a b p:Nat}(h1:a≤p)(h2:p<b)(hb:b≤d.size):a<(Go.Sort.partitionEqual lt d a b p).1∧(Go.Sort.partitionEqual lt d a b p).1≤b:=by
 have:=Go.Sort.partEqLoop_spec lt a b _ (a+1) (b-1) (Go.Sort.swp d a p) (Nat.le_refl _) zo zo zo (by rw[Go.Sort.size_swp];exact hb) (fun t h1 h2=>by omega) (fun t h1 h2=>by omega);exact⟨this.1,this.2.1⟩
theorem part_range{α:Type}[Inhabited α](lt:α→α→Bool)(d:Array α){a b p:Nat}(h1:a≤p)(h2:p<b)(hb:b≤d.size):a≤(Go.Sort.partition lt d a b p).1∧(Go.Sort.partition lt d a b p).1<b:=by
 have:=Go.Sort.partLoop_spec lt a b _ (a+1) (b-1) (Go.Sort.swp d a p) (Nat.le_refl _) zo zo zo (by rw[Go.Sort.size_swp];exact hb) (fun t h1 h2=>by omega) (fun t h1 h2=>by omega);rw[Go.Sort.partition_fst];exact⟨this.1,this.2.1⟩
theorem sort_facts{α:Type}[Inhabited α]{lt:α→α→Bool}(h:Go.Sort.SWO lt)(xs:List α):(Go.Sort.sort lt xs.toArray).toList.Perm xs∧(Go.Sort.sort lt xs.toArray).toList.Pairwise (fun x y=>lt y x=false):=by
 obtain⟨⟨h1,_,h2⟩,h3⟩:=Go.Sort.sort_sorts lt h xs.toArray;have hsz:(Go.Sort.sort lt xs.toArray).size=xs.length:=by rw[h1];simp
 refine⟨?_,?_⟩
 ·have e1:((Go.Sort.sort lt xs.toArray).extract 0 xs.toArray.size).toList=(Go.Sort.sort lt xs.toArray).toList:=by
   rw[show xs.toArray.size=(Go.Sort.sort lt xs.toArray).size by rw[h1],Array.extract_size]
  have e2:(xs.toArray.extract 0 xs.toArray.size).toList=xs:=by rw[Array.extract_size]
  rw[e1,e2] at h2;exact h2
 ·rw[List.pairwise_iff_getElem];intro i j hi hj hij;have hi':i<(Go.Sort.sort lt xs.toArray).size:=by simpa using hi
  have hj':j<(Go.Sort.sort lt xs.toArray).size:=by simpa using hj
  have:=h3 i j (Nat.zero_le _) hij (by rw[←h1];exact hj');rw[getElem!_pos _ i hi',getElem!_pos _ j hj'] at this;simpa using this
instance:Inhabited Key:=⟨⟨⟨false,0⟩,0,0⟩⟩
def ltKey(x y:Key):Bool:=decide (x.frm<y.frm∨(x.frm=y.frm∧(x.to<y.to∨(x.to=y.to∧cmpSym x.sym y.sym<0))))
def cmpNats:List Nat→List Nat→Int
 | [],[]=>0
 | [],_::_=>-1
 | _::_,[]=>1
 | a::l,b::m=>if cmpInt a b=0 then cmpNats l m else cmpInt a b
structure NPack where
 rule:Nat
 kids:List Nat
deriving DecidableEq
def tNPack:Ty NPack where
 size:=2
 rel:=fun F l x=>∃a n c,l=[.int .i64 x.rule,.slice a n c]∧Arr tNat F a n c x.kids∧x.kids.length≤1000000
 len:=fun _ _ _ h=>by obtain⟨a,n,c,rfl,_⟩:=h;rfl
 one:=fun _ _ _ h=>by obtain⟨a,n,c,rfl,_⟩:=h;rfl
 mono:=fun _ _ _ _ hF h=>by obtain⟨a,n,c,e,h,hb⟩:=h;exact⟨a,n,c,e,h.mono hF,hb⟩
def cmpNPack(x y:NPack):Int:=orInt [cmpInt x.rule y.rule,cmpNats x.kids y.kids]
inductive Reachable(g:Gram)(w:List Nat)(E:List (List Nat))(root:Key):Key→Prop
 | root:Reachable g w E root root
 | kid {k q:Key} {p:KPack}:Reachable g w E root k→p∈packsOf g w E k→q∈p.kids→Reachable g w E root q
theorem mem_packsOf{g:Gram}{w:List Nat}{E:List (List Nat)}{k:Key}{p:KPack}:p∈packsOf g w E k↔∃r,g.rules[p.rule]?=some r∧r.left=k.sym.n∧k.sym.term=false∧p.kids∈splits w E k.to r.right k.frm:=by
 unfold packsOf;rw[List.mem_flatMap];constructor
 ·rintro⟨i,hi,hp⟩;unfold packsAt at hp;split at hp
  ·rename_i r hr;split at hp
   ·rename_i hc;obtain⟨ks,hks,rfl⟩:=List.mem_map.1 hp;exact⟨r,hr,hc.1,hc.2,hks⟩
   ·cases hp
  ·cases hp
 ·rintro⟨r,hr,h1,h2,h3⟩;refine⟨p.rule,List.mem_range.2 (gS hr).1,?_⟩;unfold packsAt;rw[hr];simp only;rw[if_pos ⟨h1,h2⟩];exact List.mem_map.2 ⟨p.kids,h3,by cases p;rfl⟩
structure Node where
 key:Key
 packs:List NPack
def tNode:Ty Node where
 size:=5
 rel:=fun F l x=>∃a n c,l=[.bool x.key.sym.term,.int .i64 x.key.sym.n,.int .i64 x.key.frm,.int .i64 x.key.to,.slice a n c]∧Arr tNPack F a n c x.packs
 len:=fun _ _ _ h=>by obtain⟨a,n,c,rfl,_⟩:=h;rfl
 one:=fun _ _ _ h=>by obtain⟨a,n,c,rfl,_⟩:=h;rfl
 mono:=fun _ _ _ _ hF h=>by obtain⟨a,n,c,e,h⟩:=h;exact⟨a,n,c,e,h.mono hF⟩
def place(S:List Key)(k:Key):Nat:=S.idxOf k
def numPack(S:List Key)(p:KPack):NPack:=⟨p.rule,p.kids.map (place S)⟩
def mkNode(g:Gram)(w:List Nat)(E:List (List Nat))(S:List Key)(k:Key):Node:=⟨k,(packsOf g w E k).map (numPack S)⟩
theorem place_at{S:List Key}{k:Key}(h:k∈S):S[place S k]?=some k:=by
 unfold place;rw[gE (List.idxOf_lt_length_of_mem h),List.getElem_idxOf]
structure Keys(g:Gram)(w:List Nat)(E:List (List Nat))(root:Key)(S:List Key):Prop where
 sorted:S.Pairwise (fun x y=>ltKey x y=true)
 reach:∀k∈S,Reachable g w E root k
 first:root∈S
 closed:∀k∈S,∀p∈packsOf g w E k,∀q∈p.kids,q∈S
theorem Keys.all{g:Gram}{w:List Nat}{E:List (List Nat)}{root:Key}{S:List Key}(h:Keys g w E root S){k:Key}(hk:Reachable g w E root k):k∈S:=by
 induction hk with
 | root=>exact h.first
 | kid _ hp hq ih=>exact h.closed _ ih _ hp _ hq
def packSum(g:Gram)(w:List Nat)(E:List (List Nat))(L:List Key):Nat:=(L.map fun k=>(packsOf g w E k).length).sum
structure IS where
 L:List Key
 a:Option Addr
 c:Nat
 B:List (Nat×Blk)
 se:Ents Key
structure KS where
 a:Option Addr
 n:Nat
 c:Nat
 B:List (Nat×Blk)
structure BS where
 i:Nat
 L:List Key
 a:Option Addr
 c:Nat
 B:List (Nat×Blk)
 pe:Ents Key
 se:Ents Key
 cnt:Nat
structure LInv(g:Gram)(w:List Nat)(E:List (List Nat))(root:Key)(L:List Key)(se:Ents Key):Prop where
 nd:L.Nodup
 first:root∈L
 reach:∀k∈L,Reachable g w E root k
 seen:∀k,Abs.look se k=if k∈L then some (.bool true) else none
structure BInv(g:Gram)(w:List Nat)(E:List (List Nat))(root:Key)(F:Frz)(s:BS):Prop where
 l:LInv g w E root s.L s.se
 packs:∀j k,j<s.i→s.L[j]?=some k→∃a n c,Abs.look s.pe k=some (.slice a n c)∧Arr tKPack F a n c (packsOf g w E k)
 closed:∀j k,j<s.i→s.L[j]?=some k→∀p∈packsOf g w E k,∀q∈p.kids,q∈s.L
 cnt:s.cnt=packSum g w E (s.L.take s.i)
 le:s.i≤s.L.length
theorem BInv.mono{g:Gram}{w:List Nat}{E:List (List Nat)}{root:Key}{F G:Frz}{s:BS}(h:BInv g w E root F s)(hF:Frz.le F G):BInv g w E root G s:=
 ⟨h.l,fun j k h1 h2=>by obtain⟨a,n,c,h3,h4⟩:=h.packs j k h1 h2;exact⟨a,n,c,h3,h4.mono hF⟩,h.closed,h.cnt,h.le⟩
def prodN:List Nat→Nat
 | []=>1
 | a::l=>a*prodN l
def leafN(x:Node):Nat:=if x.key.sym.term=true then 1 else 0
def packN(f:Nat→Nat)(p:NPack):Nat:=prodN (p.kids.map f)
def nodeT(Ns:List Node):Nat→Nat→Nat
 | 0,_=>0
 | d+1,v=>match Ns[v]? with
  | some x=>leafN x+(x.packs.map (packN (nodeT Ns d))).sum
  | none=>0
def Still(T:Nat→Nat)(c:Nat):Prop:=∃D,∀d,D≤d→T d=c
def Kid(Ns:List Node)(u v:Nat):Prop:=∃x p,Ns[v]?=some x∧p∈x.packs∧u∈p.kids
inductive Path(Ns:List Node):Nat→Nat→Prop
 | one {v u:Nat}:Kid Ns u v→Path Ns v u
 | step {v u z:Nat}:Path Ns v u→Kid Ns z u→Path Ns v z
theorem Path.trans{Ns:List Node}{a b c:Nat}(h:Path Ns a b)(h2:Path Ns b c):Path Ns a c:=by
 induction h2 with
 | one k=>exact .step h k
 | step _ k ih=>exact .step ih k
def Unbound(T:Nat→Nat):Prop:=∀B,∃d,B≤T d
section
variable {Ns:List Node}(hpr:∀v,v<Ns.length→∃d,1≤nodeT Ns d v)(hkid:∀u v,Kid Ns u v→u<Ns.length)
include hpr hkid
omit hkid in
end
def MAXC:Nat:=1000000000
def CountVal(T:Nat→Nat)(c:Int):Prop:=(∃n,Still T n∧c=(min n MAXC:Nat))∨(Unbound T∧c=-1)
structure CntC(F:Frz)(i1 i2 i3 i4 is ic cap:Nat)(na:Option Addr)(nn nc:Nat)(root:Int):Prop where
 st:F i1=some (.cells false [.slice (some ⟨is,0,none⟩) nn cap])
 f:F i2=some (.cells false [.slice na nn nc,.int .i64 root])
 ct:F i3=some (.cells false [.slice (some ⟨ic,0,none⟩) nn cap])
 self:F i4=some (.cells false [.func (.func 141) ⟨[]⟩ ⟨[.pointer (some ⟨i1,0,none⟩),.pointer (some ⟨i2,0,none⟩),.pointer (some ⟨i3,0,none⟩),.pointer (some ⟨i4,0,none⟩)]⟩])
theorem CntC.mono{F G:Frz}{i1 i2 i3 i4 is ic cap:Nat}{na:Option Addr}{nn nc:Nat}{root:Int}(h:CntC F i1 i2 i3 i4 is ic cap na nn nc root)(hF:Frz.le F G):CntC G i1 i2 i3 i4 is ic cap na nn nc root:=
 ⟨hF _ _ h.st,hF _ _ h.f,hF _ _ h.ct,hF _ _ h.self⟩
structure CInv(Ns:List Node)(st ct:List Nat):Prop where
 l1:st.length=Ns.length
 l2:ct.length=Ns.length
 zero:∀u:Nat,st[u]?=some 0→ct[u]?=some 0
 done:∀u:Nat,st[u]?=some 2→∃c,Still (fun d=>nodeT Ns d u) c∧ct[u]?=some (min c MAXC)
 vals:∀(u x:Nat),st[u]?=some x→x≤2
 bnd:∀(u x:Nat),ct[u]?=some x→x≤MAXC
structure Visited(Ns:List Node)(st ct st' ct':List Nat)(v:Nat):Prop where
 inv:CInv Ns st' ct'
 at_:st'[v]?=some 2
 old:∀(u x:Nat),st[u]?=some x→x≠0→st'[u]?=some x∧ct'[u]?=ct[u]?
 new:∀u:Nat,st'[u]?=some 1→st[u]?=some 1
 fewer:st'.count 0≤st.count 0
structure FOk(Ns:List Node):Prop where
 few:Ns.length≤1000000
 packs:∀x∈Ns,x.packs.length≤1000000
 kid:∀u v,Kid Ns u v→u<Ns.length
structure VLoop(Ns:List Node)(st ct:List Nat)(v:Nat)(s c:List Nat)(val:Nat):Prop where
 inv:CInv Ns s c
 at_:s[v]?=some 1
 old:∀(u y:Nat),st[u]?=some y→y≠0→s[u]?=some y∧c[u]?=ct[u]?
 new:∀u:Nat,s[u]?=some 1→u=v∨st[u]?=some 1
 fewer:s.count 0<st.count 0
 val:c[v]?=some (min val MAXC)
structure VSt where
 st:List Nat
 ct:List Nat
 x:Nat
def Prod(Ns:List Node):Prop:=∀v,v<Ns.length→∃d,1≤nodeT Ns d v
end Go.Proofs.D