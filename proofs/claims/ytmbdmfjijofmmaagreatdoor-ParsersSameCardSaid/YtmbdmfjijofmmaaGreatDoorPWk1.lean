/-
  Walks: what functions of the program do, over the abstract machine.
-/
import Derived.Test.YtmbdmfjijofmmaaGreatDoorPWk0
import Derived.Sort.LotD4
import Derived.Sort.Walk13a
set_option linter.unusedVariables false
set_option maxRecDepth 20000
set_option maxHeartbeats 0
open Go Go.Abs Go.Proofs Go.Proofs.D
set_option linter.unusedVariables false
set_option maxRecDepth 20000
set_option maxHeartbeats 0
open Go Go.Abs Go.Proofs Go.Proofs.D
namespace Go.Proofs.D
theorem pF(x k:Nat)(h:2 ^ k<=x):Go.Sort.bitsLen x=k+Go.Sort.bitsLen (x / 2 ^ k):=by
 apply Nat.le_antisymm
 ·rw[Go.Sort.bitsLen_le_iff];have h1:=Go.Sort.lt_two_pow_bitsLen (x / 2 ^ k);rw[U0 (Tm k)] at h1;rw[TI,Tj];exact h1
 ·have h1:=Go.Sort.lt_two_pow_bitsLen x;have hk:k<=Go.Sort.bitsLen x:=by
   rcases R2 (Go.Sort.bitsLen x) k with h2 | h2
   ·have:=RS (show 0<2 by decide) (SF h2);omega
   ·exact h2
  have:Go.Sort.bitsLen (x / 2 ^ k)<=Go.Sort.bitsLen x-k:=by
   rw[Go.Sort.bitsLen_le_iff,U0 (Tm k),<-TI,Nat.sub_add_cancel hk];exact h1
  omega
theorem DD(F:ar)(x:Nat)(hx:x<4294967296):Abs.Spec CC 214 [.int .u64 x] F [] λ_ v o=>o=[]/\v=.int .i64 (Go.Sort.bitsLen x:Nat):=by
 have fin:∀(y n:Nat),y<256->n<=64->n+Go.Sort.bitsLen y=Go.Sort.bitsLen x->True:=λ_ _ _ _ _=>trivial;refine Abs.Spec.fn (n:=25) Tryz.func214 rfl rfl λown=>?_;refine aj ?_;refine AW.cond Z (λh=>(by simp at h;omega)) (λ_=>?_);refine AW.skip ?_;refine AW.jn (S:=Nat×Nat) (λs=>[(0,.int .u64 (s.1:Nat)),(2,.int .i64 (s.2:Nat))]) (λ_=>own) (λs _=>s.1<65536/\s.2<=16/\s.2+Go.Sort.bitsLen s.1=Go.Sort.bitsLen x) ?_ (λs F1 hF1 hP=>?_)
 ·refine aj ?_;refine AW.cond Z (λh=>?_) (λh=>?_)
  ·have h:65536<=x:=by simp at h;omega
   refine aj ?_;refine WT.Kn Z Z Z Z Z Z (by decide) (wM (y:=16) (by decide)) ?_;refine aj ?_;refine⟨(x / 2 ^ 16,16),sM,ah.refl _,?_,AS _,(pF x 16 h).symm⟩;show x / 65536<65536;omega
  ·have h:x<65536:=by simp at h;omega
   refine AW.skip ?_;exact⟨(x,0),sM,ah.refl _,h,R6 _,by simp⟩
 ·obtain⟨h1,h2,h3⟩:=hP;refine AW.jn (S:=Nat×Nat) (λs=>[(0,.int .u64 (s.1:Nat)),(2,.int .i64 (s.2:Nat))]) (λ_=>own) (λs _=>s.1<256/\s.2<=24/\s.2+Go.Sort.bitsLen s.1=Go.Sort.bitsLen x) ?_ (λu F2 hF2 hP=>?_)
  ·refine aj ?_;refine AW.cond Z (λh=>?_) (λh=>?_)
   ·have h:256<=s.1:=by simp at h;omega
    refine aj ?_;refine WT.Kn Z Z Z Z Z Z (by decide) (wM (y:=8) (by decide)) ?_;refine aj ?_;refine⟨(s.1 / 2 ^ 8,s.2+8),sM,ah.refl _,?_,by dsimp only;omega,?_⟩
    ·show s.1 / 256<256;omega
    ·have:=pF s.1 8 h;dsimp only;omega
   ·have h:s.1<256:=by simp at h;omega
    refine AW.skip ?_;exact⟨s,sM,ah.refl _,h,by omega,h3⟩
  ·obtain⟨g1,g2,g3⟩:=hP;refine aj ?_;refine WT.conv hT (k2:=.u8) Z Z Z Z Z Z Z Z (Ng zo) ?_
   have hb:Go.Sort.bitsLen u.1<=8:=(Go.Sort.bitsLen_le_iff _ _).2 g1;refine WT.IP (m:=256) (f:=Go.Sort.bitsLen) hT Z Z Z Z Z Z Z Z g1 (by decide +kernel) ?_;refine WT.conv hT (k2:=.i64) Z Z Z Z Z Z Z Z (wrap64 zo) ?_
   refine aj ?_;refine AW.ret ⟨_,[],⟨_,_,rfl,rfl,rfl⟩,bY,rfl,?_⟩;rw[g3];rfl
theorem sT(F:ar)(x:Nat)(hx:x<4294967296):Abs.Spec CC 174 [.int .u64 x] F [] λ_ v o=>o=[]/\v=.int .i64 (Go.Sort.bitsLen x:Nat):=by
 refine Abs.Spec.fn (n:=8) Tryz.func174 rfl rfl λown=>?_;refine aj ?_;refine AW.cond Z (λh=>(by cases h)) (λ_=>?_);refine aj ?_;refine WT.a6 Tryz.func214 Z Z Z Z Z Z (DD _ x hx) (λv hv=>?_);subst hv;refine aj ?_;exact AW.ret ⟨_,[],⟨_,_,rfl,rfl,rfl⟩,bY,rfl,rfl⟩
theorem He(F:ar)(x:Nat)(hx:x<=1000000):Abs.Spec CC 237 [.int .i64 x] F [] λ_ v o=>o=[]/\v=.int .u64 ((2 ^ Go.Sort.bitsLen x:Nat):Int):=by
 have hb : Go.Sort.bitsLen x <= 20 := (Go.Sort.bitsLen_le_iff _ _).2 (by
  have : 2 ^ 20 = 1048576 := rfl
  omega)
 have hp:2 ^ Go.Sort.bitsLen x<=2 ^ 20:=RS (by decide) hb;have h20:2 ^ 20=1048576:=rfl;refine Abs.Spec.fn (n:=7) Tryz.func237 rfl rfl λown=>?_;refine aj ?_;refine WT.conv hT (k2:=.u64) Z Z Z Z Z Z Z Z (iq zo) ?_
 refine WT.a6 Tryz.func174 Z Z Z Z Z Z (sT _ x zo) (λv hv=>?_);subst hv;have e:=Jh (x:=1) (y:=Go.Sort.bitsLen x) zo;rw[S7,Nat.mod_eq_of_lt zo] at e;refine WT.Kn Z Z Z Z Z Z (by decide) e ?_;refine aj ?_;exact AW.ret ⟨_,[],⟨_,_,rfl,rfl,rfl⟩,bY,rfl,rfl⟩
theorem Hl(F:ar)(ip r:Nat)(hr:r<18446744073709551616):Abs.Spec CC 238 [.pointer (some ⟨ip,0,none⟩)] F [[(ip,.cells false [.int .u64 r])]] λF' v o=>∃B',o=[B']/\v=.int .u64 (Go.Sort.xorNextN r:Nat)/\B'=[(ip,.cells false [.int .u64 (Go.Sort.xorNextN r:Nat)])]:=by
 obtain⟨a,ha⟩:∃a,r ^^^ (r*8192 % 18446744073709551616)=a:=⟨_,rfl⟩;obtain⟨b,hb⟩:∃b,a ^^^ (a / 128)=b:=⟨_,rfl⟩;obtain⟨c,hc⟩:∃c,b ^^^ (b*131072 % 18446744073709551616)=c:=⟨_,rfl⟩;have p:(18446744073709551616:Nat)=2 ^ 64:=by decide
 have ha2:a<18446744073709551616:=by rw[<-ha,p];exact Nat.xor_lt_two_pow zo zo
 have hb2:b<18446744073709551616:=by rw[<-hb,p];exact Nat.xor_lt_two_pow zo zo
 have hx:Go.Sort.xorNextN r=c:=by simp only[Go.Sort.xorNextN,ha,hb,hc]
 rw[hx];refine Abs.Spec.fn (n:=33) Tryz.func238 rfl rfl λown=>?_;refine aj ?_;refine WT.Kn Z Z Z Z Z Z (by decide) (Jh (y:=13) (by decide)) ?_;refine WT.Em Z Z Z Z Z Z (by decide) (Ij hr (Nat.mod_lt _ (by decide))) ?_;rw[show r ^^^ (r*2 ^ 13 % 18446744073709551616)=a from ha];refine aj ?_;refine WT.Kn Z Z Z Z Z Z (by decide) (wM (y:=7) (by decide)) ?_;refine WT.Em Z Z Z Z Z Z (by decide) (Ij ha2 (T8 (Un _ _) ha2)) ?_;rw[show a ^^^ (a / 2 ^ 7)=b from hb];refine aj ?_;refine WT.Kn Z Z Z Z Z Z (by decide) (Jh (y:=17) (by decide)) ?_
 refine WT.Em Z Z Z Z Z Z (by decide) (Ij hb2 (Nat.mod_lt _ (by decide))) ?_;rw[show b ^^^ (b*2 ^ 17 % 18446744073709551616)=c from hc];refine aj ?_;exact AW.ret ⟨_,[_],⟨_,_,rfl,rfl,rfl⟩,bY,_,rfl,rfl,rfl⟩
def Kr{α:Type}[Inhabited α](a l md i0:Nat)(st:UInt64×Array α):Nat->UInt64×Array α
 | 0=>st
 | n+1=>Go.Sort.breakStep a l md (Kr a l md i0 st n) (i0+n)
structure PS(α:Type) where
 a:Nat
 b:Nat
 lim:Nat
 wb:Bool
 wp:Bool
 d:Array α
 B:List (Nat×aE)
theorem A3{α:Type}[Inhabited α](lt:α->α->Bool)(d:Array α){a b p:Nat}(h1:a<=p)(h2:p<b)(hb:b<=d.size):a<(Go.Sort.partitionEqual lt d a b p).1/\(Go.Sort.partitionEqual lt d a b p).1<=b:=by
 have:=Go.Sort.partEqLoop_spec lt a b _ (a+1) (b-1) (Go.Sort.swp d a p) (AS _) zo zo zo (by rw[Go.Sort.size_swp];exact hb) (λt h1 h2=>by omega) (λt h1 h2=>by omega);exact⟨this.1,this.2.1⟩
theorem DH{α:Type}[Inhabited α](lt:α->α->Bool)(d:Array α){a b p:Nat}(h1:a<=p)(h2:p<b)(hb:b<=d.size):a<=(Go.Sort.partition lt d a b p).1/\(Go.Sort.partition lt d a b p).1<b:=by
 have:=Go.Sort.partLoop_spec lt a b _ (a+1) (b-1) (Go.Sort.swp d a p) (AS _) zo zo zo (by rw[Go.Sort.size_swp];exact hb) (λt h1 h2=>by omega) (λt h1 h2=>by omega);rw[Go.Sort.partition_fst];exact⟨this.1,this.2.1⟩
theorem we{α:Type}[Inhabited α]{lt:α->α->Bool}(h:Go.Sort.SWO lt)(xs:List α):(Go.Sort.sort lt xs.toArray).toList.Perm xs/\(Go.Sort.sort lt xs.toArray).toList.Pairwise (λx y=>lt y x=false):=by
 obtain⟨⟨h1,_,h2⟩,h3⟩:=Go.Sort.sort_sorts lt h xs.toArray;have hsz:(Go.Sort.sort lt xs.toArray).size=xs.length:=by rw[h1];simp
 refine⟨?_,?_⟩
 ·have e1:((Go.Sort.sort lt xs.toArray).extract 0 xs.toArray.size).toList=(Go.Sort.sort lt xs.toArray).toList:=by
   rw[show xs.toArray.size=(Go.Sort.sort lt xs.toArray).size by rw[h1],Array.extract_size]
  have e2:(xs.toArray.extract 0 xs.toArray.size).toList=xs:=by rw[Array.extract_size]
  rw[e1,e2] at h2;exact h2
 ·rw[Tv];intro i j hi hj hij;have hi':i<(Go.Sort.sort lt xs.toArray).size:=by simpa using hi
  have hj':j<(Go.Sort.sort lt xs.toArray).size:=by simpa using hj
  have:=h3 i j (R6 _) hij (by rw[<-h1];exact hj');rw[getElem!_pos _ i hi',getElem!_pos _ j hj'] at this;simpa using this
instance:Inhabited Key:=⟨⟨⟨false,0⟩,0,0⟩⟩
theorem om{p:Prop} (h:p:=by
 obtain⟨⟨fn,hg,hgb⟩,hcmp⟩:=hc;refine Abs.Spec.fn (n:=53) AJ rfl rfl λown=>?_;refine aj ?_;refine AW.block ?_;refine AW.cm (S:=VS cY) (λs=>[(8,.int .i64 (s.i:Nat))]) (λs=>s.B::own) (λs G=>dM cw G a0 m c s.B s.d.toList/\Go.Sort.insOuter lt a b s.i s.d=Go.Sort.insertionSort lt d a b) (λs=>b-s.i) ⟨a+1,d,B⟩
  sM oR ⟨hv,rfl⟩ ?_
 intro s F1 hF1 hP;obtain⟨hv1,heq1⟩:=hP;refine aj ?_;refine AW.cond Z (λh=>?_) (λh=>?_)
 ·have h:s.i<b:=by simpa using h
  refine aj ?_;refine AW.block ?_;refine aj ?_;refine AW.block ?_;refine AW.cm (S:=VS cY) (λu=>[(9,.int .i64 (u.i:Nat))]) (λu=>u.B::own) (λu G=>dM cw G a0 m c u.B u.d.toList/\u.i<=s.i/\Go.Sort.insInner lt a u.i u.d=Go.Sort.insInner lt a s.i s.d) (λu=>u.i) ⟨s.i,s.d,s.B⟩
   sM oR ⟨hv1,AS _,rfl⟩ ?_
  intro u F2 hF2 hP2;obtain⟨hv2,hui,heq2⟩:=hP2;have hsz:m=u.d.size:=hv2.len;have stop:(a<u.i->lt u.d[u.i]! u.d[u.i-1]! = false)->Go.Sort.insOuter lt a b (s.i+1) u.d=Go.Sort.insertionSort lt d a b:=by
   intro h1;rw[<-heq1];have e:Go.Sort.insInner lt a s.i s.d=u.d:=by
    rw[<-heq2];cases hi:u.i with
    | zero=>rfl
    | succ j=>
     rw[hi] at h1;simp only[Tz] at h1;rw[Go.Sort.insInner];by_cases h2:a<j+1
     ·rw[h1 h2];simp
     ·simp[h2]
   conv=>rhs;rw[Go.Sort.insOuter]
   rw[By h,e]
  refine aj ?_;refine WT.split 21 Z (λhja=>?_) (λhja=>?_)
  ·have hja:a<u.i:=by simp at hja;omega
   refine aj ?_;refine WT.bA hT hv2 Z Z Z Z Z Z Z Z Z zo (λbl1 hbl1=>?_);refine WT.cz hT 0 hv2 hbl1 (aV zo) Z Z Z Z Z Z Z Z Z (λl1 hl1=>?_);refine aj ?_;refine WT.bA hT hv2 Z Z Z Z Z Z Z Z Z zo (λbl2 hbl2=>?_);refine WT.cz hT 0 hv2 hbl2 (aV zo) Z Z Z Z Z Z Z Z Z (λl2 hl2=>?_);refine WT.eB hg hgb Z Z Z Z Z Z Z (hcmp F2 (hF1.trans hF2) l1 l2 _ _ hl1 hl2) (λv hvz=>?_);obtain⟨z,rfl,hz⟩:=hvz;refine aj ?_;refine AW.cond Z (λhc=>?_) (λhc=>?_)
   ·have hlt:lt u.d[u.i]! u.d[u.i-1]! = true:=hz.1 (by simpa using hc);refine aj ?_;refine AW.block ?_;refine AW.draw (ps:=[(4,15)]) Z Z ?_;refine aj ?_;refine WT.bA hT hv2 Z Z Z Z Z Z Z Z Z zo (λbl3 hbl3=>?_);refine WT.cz hT 0 hv2 hbl3 (aV zo) Z Z Z Z Z Z Z Z Z (λl3 hl3=>?_);refine aj ?_;refine WT.bA hT hv2 Z Z Z Z Z Z Z Z Z zo (λbl4 hbl4=>?_);refine WT.cz hT 0 hv2 hbl4 (aV zo) Z Z Z Z Z Z Z Z Z (λl4 hl4=>?_);refine WT.bA hT hv2 Z Z Z Z Z Z Z Z Z zo (λbl5 hbl5=>?_)
    refine WT.qC (y:=u.d[u.i-1]!) hT 0 hv2 hbl5 (gE (by simp;omega)) Z Z Z Z Z hl3 Z (λ_=>rfl) Z (λBl5 hBl5=>?_);refine WT.bA hT hBl5 Z Z Z Z Z Z Z Z Z zo (λbl6 hbl6=>?_);refine WT.qC (y:=u.d[u.i]!) hT 0 hBl5 hbl6 (gE (by simp;omega)) Z Z Z Z Z hl4 Z (λ_=>rfl) Z (λBl6 hBl6=>?_);rw[<-dF] at hBl6;refine aj ?_;refine⟨oY,?_⟩;refine aj ?_;refine⟨⟨u.i-1,Go.Sort.swp u.d u.i (u.i-1),Bl6⟩,by dsimp only;omega,sM,ah.refl _,hBl6,by dsimp only;omega,?_⟩;rw[<-heq2];show Go.Sort.insInner lt a (u.i-1) (Go.Sort.swp u.d u.i (u.i-1))=_;cases hi:u.i with
    | zero=>omega
    | succ j=>
     rw[hi] at hlt;simp only[Tz] at hlt ⊢
     conv=>rhs;rw[Go.Sort.insInner]
     rw[By (by simp[hlt];omega)]
   ·have hlt:lt u.d[u.i]! u.d[u.i-1]! = false:=by
     cases hh:lt u.d[u.i]! u.d[u.i-1]! with
     | false=>rfl
     | true=>exact absurd (hz.2 hh) (by simpa using hc)
    refine AW.exit ?_;refine aj ?_;exact⟨⟨s.i+1,u.d,u.B⟩,by dsimp only;omega,sM,ah.refl _,hv2,stop (λ_=>hlt)⟩
  ·have hja:¬a<u.i:=by simp at hja;omega
   refine aj ?_;refine AW.cond Z (λh=>(by cases h)) (λ_=>?_);refine AW.exit ?_;refine aj ?_;exact⟨⟨s.i+1,u.d,u.B⟩,by dsimp only;omega,sM,ah.refl _,hv2,stop (λh=>absurd h hja)⟩
 ·have h:¬s.i<b:=by simpa using h
  refine AW.exit ?_;refine⟨_,[_],rfl,bY,_,rfl,?_⟩;rw[<-heq1,Go.Sort.insOuter,AT h];exact hv1):p:=h
namespace Nky
abbrev cY:=Key
abbrev AJ:=Tryz.func224
abbrev cw:=dB
end Nky
open Nky in
theorem EP(F:ar){lt:Key->Key->Bool}{g:Nat}{first capt:List Value}(hc:dV dB lt F g first capt){a0:Option Addr}{m c:Nat}{B:List (Nat×aE)}{d:Array Key}(hv:dM dB F a0 m c B d.toList)(a b:Nat)(ha:a<=1000000)(hb:b<=m)(hm:m<=1000000) :
  Abs.Spec CC 224 [.slice a0 m c,.int .i64 a,.int .i64 b,.func (.func g) ⟨first⟩ ⟨capt⟩] F [B] λF' v o=>∃B',o=[B']/\dM dB F' a0 m c B' (Go.Sort.insertionSort lt d a b).toList:=om
theorem mS{p:Prop} (h:p:=by
 obtain⟨⟨fn,hg,hgb⟩,hcmp⟩:=hc;refine Abs.Spec.fn (n:=82) rY rfl rfl λown=>?_;refine aj ?_;refine AW.block ?_;refine AW.cm (S:=VS cY) (λs=>[(10,.int .i64 (s.i:Nat))]) (λs=>s.B::own) (λs G=>dM cw G a0 m c s.B s.d.toList/\s.i<=1000000/\Go.Sort.siftDown lt hi fst s.i s.d=Go.Sort.siftDown lt hi fst lo d) (λs=>hi-s.i) ⟨lo,d,B⟩
  sM oR ⟨hv,hlo,rfl⟩ ?_
 intro u F1 hF1 hP;obtain⟨hv2,hui,heq⟩:=hP;have hsz:m=u.d.size:=hv2.len;refine AW.block ?_;refine aj ?_;refine AW.cond Z (λh=>?_) (λh=>?_)
 ·have h:hi<=2*u.i+1:=by simp at h;omega
  refine AW.exit ?_;refine⟨_,[_],rfl,bY,_,rfl,?_⟩;rw[<-heq,Go.Sort.siftDown,dif_pos h];exact hv2
 ·have h:2*u.i+1<hi:=by simp at h;omega
  refine AW.skip ?_;refine AW.jn (S:=Nat) (λch=>[(11,.int .i64 (ch:Nat))]) (λ_=>u.B::own) (λch _=>u.i<ch/\ch<hi/\Go.Sort.siftDown lt hi fst u.i u.d=if (!lt u.d[fst+u.i]! u.d[fst+ch]!)=true then u.d else Go.Sort.siftDown lt hi fst ch (Go.Sort.swp u.d (fst+u.i) (fst+ch))) ?_ (λch F3 hF3 hch=>?_)
  ·have e1:(decide (2*u.i+1+1<hi)&&lt u.d[fst+(2*u.i+1)]! u.d[fst+(2*u.i+1)+1]!)=false->Go.Sort.siftDown lt hi fst u.i u.d=if (!lt u.d[fst+u.i]! u.d[fst+(2*u.i+1)]!)=true then u.d else Go.Sort.siftDown lt hi fst (2*u.i+1) (Go.Sort.swp u.d (fst+u.i) (fst+(2*u.i+1))):=by
    intro h1
    conv=>lhs;rw[Go.Sort.siftDown]
    rw[dif_neg zo];simp only[IN,Su,Bool.and_eq_false_imp] at h1 ⊢;rw[AT (λh2=>by have:=h1 h2.1;rw[h2.2] at this;cases this)]
   refine aj ?_;refine WT.split 23 Z (λh2=>?_) (λh2=>?_)
   ·have h2:2*u.i+1+1<hi:=by simp at h2;omega
    refine aj ?_;refine WT.bA hT hv2 Z Z Z Z Z Z Z Z Z zo (λbl1 hbl1=>?_);refine WT.cz hT 0 hv2 hbl1 (aV zo) Z Z Z Z Z Z Z Z Z (λl1 hl1=>?_);refine aj ?_;refine WT.bA hT hv2 Z Z Z Z Z Z Z Z Z zo (λbl2 hbl2=>?_);refine WT.cz hT 0 hv2 hbl2 (aV zo) Z Z Z Z Z Z Z Z Z (λl2 hl2=>?_);refine WT.eB hg hgb Z Z Z Z Z Z Z (hcmp F1 hF1 l1 l2 _ _ hl1 hl2) (λv hvz=>?_);obtain⟨z,rfl,hz⟩:=hvz;refine aj ?_;refine AW.cond Z (λhc=>?_) (λhc=>?_)
    ·have hlt:=hz.1 (by simpa using hc);refine aj ?_;refine⟨2*u.i+1+1,sM,ah.refl _,by omega,h2,?_⟩
     conv=>lhs;rw[Go.Sort.siftDown]
     rw[dif_neg zo,By (by simp[h2,hlt])];rw[dif_pos (show 2*u.i+2<hi by omega)]
    ·have hlt:lt u.d[fst+(2*u.i+1)]! u.d[fst+(2*u.i+1)+1]! = false:=by
      cases hh:lt u.d[fst+(2*u.i+1)]! u.d[fst+(2*u.i+1)+1]! with
      | false=>rfl
      | true=>exact absurd (hz.2 hh) (by simpa using hc)
     refine AW.skip ?_;exact⟨2*u.i+1,sM,ah.refl _,by omega,h,e1 (by rw[hlt];simp)⟩
   ·have h2:¬2*u.i+1+1<hi:=by simp at h2;omega
    refine aj ?_;refine AW.cond Z (λh=>(by cases h)) (λ_=>?_);refine AW.skip ?_;exact⟨2*u.i+1,sM,ah.refl _,by omega,h,e1 (by simp[h2])⟩
  ·obtain⟨hc1,hc2,hceq⟩:=hch;have hv3:=hv2.mono hF3;refine aj ?_;refine WT.bA hT hv3 Z Z Z Z Z Z Z Z Z zo (λbl1 hbl1=>?_);refine WT.cz hT 0 hv3 hbl1 (aV zo) Z Z Z Z Z Z Z Z Z (λl1 hl1=>?_);refine aj ?_;refine WT.bA hT hv3 Z Z Z Z Z Z Z Z Z zo (λbl2 hbl2=>?_);refine WT.cz hT 0 hv3 hbl2 (aV zo) Z Z Z Z Z Z Z Z Z (λl2 hl2=>?_);refine WT.eB hg hgb Z Z Z Z Z Z Z (hcmp F3 (hF1.trans hF3) l1 l2 _ _ hl1 hl2) (λv hvz=>?_);obtain⟨z,rfl,hz⟩:=hvz;refine aj ?_;refine AW.cond Z (λhc=>?_) (λhc=>?_)
   ·have hlt:lt u.d[fst+u.i]! u.d[fst+ch]! = false:=by
     cases hh:lt u.d[fst+u.i]! u.d[fst+ch]! with
     | false=>rfl
     | true=>exact absurd (hz.2 hh) (by simpa using hc)
    refine AW.ret ⟨_,[_],rfl,bY,_,rfl,?_⟩;rw[<-heq,hceq,hlt,By (by decide)];exact hv3
   ·have hlt:=hz.1 (by simpa using hc);refine aj ?_;refine AW.draw (ps:=[(7,21)]) Z Z ?_;refine aj ?_;refine WT.bA hT hv3 Z Z Z Z Z Z Z Z Z zo (λbl3 hbl3=>?_);refine WT.cz hT 0 hv3 hbl3 (aV zo) Z Z Z Z Z Z Z Z Z (λl3 hl3=>?_);refine aj ?_;refine WT.bA hT hv3 Z Z Z Z Z Z Z Z Z zo (λbl4 hbl4=>?_);refine WT.cz hT 0 hv3 hbl4 (aV zo) Z Z Z Z Z Z Z Z Z (λl4 hl4=>?_);refine WT.bA hT hv3 Z Z Z Z Z Z Z Z Z zo (λbl5 hbl5=>?_);refine WT.qC (y:=u.d[fst+ch]!) hT 0 hv3 hbl5 (gE (by simp;omega)) Z Z Z Z Z hl3 Z (λ_=>rfl) Z (λBl5 hBl5=>?_)
    refine WT.bA hT hBl5 Z Z Z Z Z Z Z Z Z zo (λbl6 hbl6=>?_);refine WT.qC (y:=u.d[fst+u.i]!) hT 0 hBl5 hbl6 (gE (by simp;omega)) Z Z Z Z Z hl4 Z (λ_=>rfl) Z (λBl6 hBl6=>?_);rw[<-dF] at hBl6;refine aj ?_;refine⟨oY,?_⟩;refine aj ?_;refine⟨⟨ch,Go.Sort.swp u.d (fst+u.i) (fst+ch),Bl6⟩,by dsimp only;omega,sM,ah.refl _,hBl6,by dsimp only;omega,?_⟩;rw[<-heq,hceq,hlt,AT (by simp)]):p:=h
namespace Nky
abbrev rY:=Tryz.func263
end Nky
open Nky in
theorem CR(F:ar){lt:Key->Key->Bool}{g:Nat}{first capt:List Value}(hc:dV dB lt F g first capt){a0:Option Addr}{m c:Nat}{B:List (Nat×aE)}{d:Array Key}(hv:dM dB F a0 m c B d.toList)(lo hi fst:Nat)(hlo:lo<=1000000)(hb:fst+hi<=m)(hm:m<=1000000) :
  Abs.Spec CC 263 [.slice a0 m c,.int .i64 lo,.int .i64 hi,.int .i64 fst,.func (.func g) ⟨first⟩ ⟨capt⟩] F [B] λF' v o=>∃B',o=[B']/\dM dB F' a0 m c B' (Go.Sort.siftDown lt hi fst lo d).toList:=mS
theorem m9{p:Prop} (h:p:=by
 refine Abs.Spec.fn (n:=60) AY rfl rfl λown=>?_;refine aj ?_;refine WT.Es 2 Z Z Z Z Z Z (by decide) zo ?_;refine aj ?_;refine AW.jB (v':=.int .i64 ((((b-a-1) / 2+1:Nat):Int)-1)) 11 Z (by congr 1;omega) ?_;refine AW.Fs (S:=VS cY) (λ_=>[(11,.int .i64 (((0:Nat):Int)-1))]) (λs=>s.B::own) (λs G=>dM cw G a0 m c s.B s.d.toList/\s.d=Go.Sort.heapBuild lt (b-a) a ((b-a-1) / 2+1) d) ?_ (λs F1 hF1 hP=>?_)
 ·refine AW.block ?_;refine AW.cm (S:=VS cY) (λs=>[(11,.int .i64 ((s.i:Int)-1))]) (λs=>s.B::own) (λs G=>dM cw G a0 m c s.B s.d.toList/\s.i<=1000000/\Go.Sort.heapBuild lt (b-a) a s.i s.d=Go.Sort.heapBuild lt (b-a) a ((b-a-1) / 2+1) d) (λs=>s.i) ⟨(b-a-1) / 2+1,d,B⟩
   sM oR ⟨hv,by dsimp only;omega,rfl⟩ ?_
  intro u F2 hF2 hP2;obtain⟨hv2,hui,heq⟩:=hP2;refine aj ?_;refine AW.cond Z (λh=>?_) (λh=>?_)
  ·have h:1<=u.i:=by simp at h;omega
   refine aj ?_;refine AW.block ?_;refine aj ?_;refine WT.jB (v':=.int .i64 ((u.i-1:Nat):Int)) 25 Z (by congr 1;omega) ?_;refine WT.cW 0 rY Z Z Z Z Z Z Z (λ_=>rfl) (wP _ (hc.mono hF2) hv2 (u.i-1) (b-a) a zo zo hm) (λF3 v B3 hF3 hv3=>?_);refine WT.nil ?_;refine AW.dp ?_;refine WT.JQ hT Z Z Z Z Z ?_;refine WT.Jb Z Z Z Z Z Z zo ?_;refine WT.jB (v':=.int .i64 (((u.i-1:Nat):Int)-1)) 23 Z (by congr 1;omega) ?_;refine aj ?_;refine⟨⟨u.i-1,_,B3⟩,by dsimp only;omega,sM,ah.refl _,hv3,by dsimp only;omega,?_⟩;rw[<-heq];cases hi:u.i with
   | zero=>omega
   | succ j=>rfl
  ·have h:u.i=0:=by simp at h;omega
   refine AW.exit ?_;refine⟨⟨0,u.d,u.B⟩,bI.of_map (by rw[h];rfl),ah.refl _,hv2,?_⟩;rw[<-heq,h];rfl
 ·obtain⟨hv1,hd1⟩:=hP;refine aj ?_;refine AW.jB (v':=.int .i64 (((b-a:Nat):Int)-1)) 12 Z (by congr 1;omega) ?_;refine AW.block ?_;refine AW.cm (S:=VS cY) (λs=>[(12,.int .i64 ((s.i:Int)-1))]) (λs=>s.B::own) (λs G=>dM cw G a0 m c s.B s.d.toList/\s.i<=b-a/\Go.Sort.heapPop lt a s.i s.d=Go.Sort.heapSort lt d a b) (λs=>s.i) ⟨b-a,s.d,s.B⟩
   sM oR ⟨hv1,AS _,by dsimp only;rw[hd1];rfl⟩ ?_
  intro u F2 hF2 hP2;obtain⟨hv2,hui,heq⟩:=hP2;have hsz:m=u.d.size:=hv2.len;refine aj ?_;refine AW.cond Z (λh=>?_) (λh=>?_)
  ·have h:1<=u.i:=by simp at h;omega
   refine aj ?_;refine AW.block ?_;refine AW.seq (AW.draw (ps:=[(5,17)]) Z Z ?_);refine aj ?_;refine WT.jB (v':=.int .i64 ((a+(u.i-1):Nat):Int)) 41 Z (by congr 1;omega) ?_;refine WT.jB (v':=.int .i64 ((a+(u.i-1):Nat):Int)) 45 Z (by congr 1;omega) ?_;refine WT.bA hT hv2 Z Z Z Z Z Z Z Z Z zo (λbl3 hbl3=>?_);refine WT.cz hT 0 hv2 hbl3 (aV zo) Z Z Z Z Z Z Z Z Z (λl3 hl3=>?_);refine aj ?_;refine WT.bA hT hv2 Z Z Z Z Z Z Z Z Z zo (λbl4 hbl4=>?_);refine WT.cz hT 0 hv2 hbl4 (aV zo) Z Z Z Z Z Z Z Z Z (λl4 hl4=>?_)
   refine WT.bA hT hv2 Z Z Z Z Z Z Z Z Z zo (λbl5 hbl5=>?_);refine WT.qC (y:=u.d[a+(u.i-1)]!) hT 0 hv2 hbl5 (gE (by simp;omega)) Z Z Z Z Z hl3 Z (λ_=>rfl) Z (λBl5 hBl5=>?_);refine WT.bA hT hBl5 Z Z Z Z Z Z Z Z Z zo (λbl6 hbl6=>?_);refine WT.qC (y:=u.d[a]!) hT 0 hBl5 hbl6 (gE (by simp;omega)) Z Z Z Z Z hl4 Z (λ_=>rfl) Z (λBl6 hBl6=>?_);rw[<-dF] at hBl6;refine aj ?_;refine⟨oY,?_⟩;refine aj ?_;refine WT.jB (v':=.int .i64 ((u.i-1:Nat):Int)) 56 Z (by congr 1;omega) ?_;refine WT.jB (v':=.int .i64 ((0:Nat):Int)) 55 Z Z ?_
   refine WT.cW 0 rY Z Z Z Z Z Z Z (λ_=>rfl) (wP _ ((hc.mono hF1).mono hF2) hBl6 0 (u.i-1) a zo zo hm) (λF3 v B3 hF3 hv3=>?_);refine WT.nil ?_;refine AW.dp ?_;refine WT.JQ hT Z Z Z Z Z ?_;refine WT.Jb Z Z Z Z Z Z zo ?_;refine WT.jB (v':=.int .i64 (((u.i-1:Nat):Int)-1)) 35 Z (by congr 1;omega) ?_;refine aj ?_;refine⟨⟨u.i-1,_,B3⟩,by dsimp only;omega,sM,ah.refl _,hv3,by dsimp only;omega,?_⟩;rw[<-heq];cases hi:u.i with
   | zero=>omega
   | succ j=>rfl
  ·have h:u.i=0:=by simp at h;omega
   refine AW.exit ?_;refine⟨_,[_],rfl,bY,_,rfl,?_⟩;rw[<-heq,h];exact hv2):p:=h
namespace Nky
abbrev AY:=Tryz.func225
abbrev wP:=@CR
end Nky
open Nky in
theorem C7(F:ar){lt:Key->Key->Bool}{g:Nat}{first capt:List Value}(hc:dV dB lt F g first capt){a0:Option Addr}{m c:Nat}{B:List (Nat×aE)}{d:Array Key}(hv:dM dB F a0 m c B d.toList)(a b:Nat)(hab:a<b)(hb:b<=m)(hm:m<=1000000) :
  Abs.Spec CC 225 [.slice a0 m c,.int .i64 a,.int .i64 b,.func (.func g) ⟨first⟩ ⟨capt⟩] F [B] λF' v o=>∃B',o=[B']/\dM dB F' a0 m c B' (Go.Sort.heapSort lt d a b).toList:=m9
theorem nD{p:Prop} (h:p:=by
 refine Abs.Spec.fn (n:=34) An rfl rfl λown=>?_;refine aj ?_;refine AW.block ?_;refine AW.cm (S:=Nat×VS cY) (λs=>[(8,.int .i64 (s.2.i:Nat)),(9,.int .i64 (s.1:Nat))]) (λs=>s.2.B::own) (λs G=>dM cw G a0 m c s.2.B s.2.d.toList/\s.1<m/\s.2.i<=m/\Go.Sort.reverseLoop s.2.i s.1 s.2.d=Go.Sort.reverseRange d a b) (λs=>s.1-s.2.i) (b-1,⟨a,d,B⟩)
  sM oR ⟨hv,by dsimp only;omega,by dsimp only;omega,rfl⟩ ?_
 intro u F2 hF2 hP2;obtain⟨hv2,hj,hi,heq⟩:=hP2;have hsz:m=u.2.d.size:=hv2.len;refine aj ?_;refine AW.cond Z (λh=>?_) (λh=>?_)
 ·have h:u.2.i<u.1:=by simp at h;omega
  refine aj ?_;refine AW.block ?_;refine aj ?_;refine WT.bA hT hv2 Z Z Z Z Z Z Z Z Z zo (λbl3 hbl3=>?_);refine WT.cz hT 0 hv2 hbl3 (aV zo) Z Z Z Z Z Z Z Z Z (λl3 hl3=>?_);refine aj ?_;refine WT.bA hT hv2 Z Z Z Z Z Z Z Z Z zo (λbl4 hbl4=>?_);refine WT.cz hT 0 hv2 hbl4 (aV zo) Z Z Z Z Z Z Z Z Z (λl4 hl4=>?_);refine WT.bA hT hv2 Z Z Z Z Z Z Z Z Z zo (λbl5 hbl5=>?_);refine WT.qC (y:=u.2.d[u.1]!) hT 0 hv2 hbl5 (gE (by simp;omega)) Z Z Z Z Z hl3 Z (λ_=>rfl) Z (λBl5 hBl5=>?_);refine WT.bA hT hBl5 Z Z Z Z Z Z Z Z Z zo (λbl6 hbl6=>?_)
  refine WT.qC (y:=u.2.d[u.2.i]!) hT 0 hBl5 hbl6 (gE (by simp;omega)) Z Z Z Z Z hl4 Z (λ_=>rfl) Z (λBl6 hBl6=>?_);rw[<-dF] at hBl6;refine aj ?_;refine⟨(u.1-1,⟨u.2.i+1,Go.Sort.swp u.2.d u.2.i u.1,Bl6⟩),by dsimp only;omega,sM,ah.refl _,hBl6,by dsimp only;omega,by dsimp only;omega,?_⟩;rw[<-heq]
  conv=>rhs;rw[Go.Sort.reverseLoop]
  rw[By h]
 ·have h:¬u.2.i<u.1:=by simp at h;omega
  refine AW.exit ?_;refine⟨_,[_],rfl,bY,_,rfl,?_⟩;rw[<-heq,Go.Sort.reverseLoop,AT h];exact hv2):p:=h
namespace Nky
abbrev An:=Tryz.func228
end Nky
open Nky in
theorem Dv(F:ar){cv:Value}{a0:Option Addr}{m c:Nat}{B:List (Nat×aE)}{d:Array Key}(hv:dM dB F a0 m c B d.toList)(a b:Nat)(hab:a<b)(hb:b<=m)(hm:m<=1000000) :
  Abs.Spec CC 228 [.slice a0 m c,.int .i64 a,.int .i64 b,cv] F [B] λF' v o=>∃B',o=[B']/\dM dB F' a0 m c B' (Go.Sort.reverseRange d a b).toList:=nD
theorem mR{p:Prop} (h:p:=by
 obtain⟨⟨fn,hg,hgb⟩,hcmp⟩:=hc;have hsz:m=d.size:=hv.len;refine Abs.Spec.fn (n:=178) xF rfl rfl λown=>?_;refine aj ?_;refine WT.bA hT hv Z Z Z Z Z Z Z Z Z zo (λbl1 hbl1=>?_);refine WT.cz hT 0 hv hbl1 (aV zo) Z Z Z Z Z Z Z Z Z (λl1 hl1=>?_);refine aj ?_;refine WT.bA hT hv Z Z Z Z Z Z Z Z Z zo (λbl2 hbl2=>?_);refine WT.cz hT 0 hv hbl2 (aV zo) Z Z Z Z Z Z Z Z Z (λl2 hl2=>?_);refine WT.bA hT hv Z Z Z Z Z Z Z Z Z zo (λbl3 hbl3=>?_);refine WT.qC (y:=d[pivot]!) hT 0 hv hbl3 (gE (by simp;omega)) Z Z Z Z Z hl1 Z (λ_=>rfl) Z (λBl3 hBl3=>?_)
 refine WT.bA hT hBl3 Z Z Z Z Z Z Z Z Z zo (λbl4 hbl4=>?_);refine WT.qC (y:=d[a]!) hT 0 hBl3 hbl4 (gE (by simp;omega)) Z Z Z Z Z hl2 Z (λ_=>rfl) Z (λBl4 hBl4=>?_);rw[<-dF] at hBl4;obtain⟨d1,hd1⟩:∃d1,Go.Sort.swp d a pivot=d1:=⟨_,rfl⟩;rw[hd1] at hBl4;have hsz1:m=d1.size:=hBl4.len;refine aj ?_;obtain⟨i1,hi1⟩:∃i1,Go.Sort.scanUp (λx=>lt x d1[a]!) d1 (b-1) (a+1)=i1:=⟨_,rfl⟩;obtain⟨j1,hj1⟩:∃j1,Go.Sort.scanDown (λx=>!lt x d1[a]!) d1 i1 (b-1)=j1:=⟨_,rfl⟩;obtain⟨u1,u2,u3,u4⟩:=Go.Sort.scanUp_spec (λx=>lt x d1[a]!) d1 (b-1) _ (a+1) rfl
 obtain⟨v1,v2,v3,v4⟩:=Go.Sort.scanDown_spec (λx=>!lt x d1[a]!) d1 i1 (b-1);rw[hi1] at u1 u2 u4;rw[hj1] at v1 v2 v4;have u2:=u2 zo;have v2:=v2 zo;refine AW.Fs (S:=Unit) (λ_=>[(12,.int .i64 (Go.Sort.scanUp (λx=>lt x d1[a]!) d1 (b-1) (a+1):Nat))]) (λ_=>(Bl4::own)) (λ_ _=>True) ?_ (λ_ F1 hF1 _=>?_)
 ·refine AW.block ?_;refine AW.cm (S:=Nat) (λi=>[(12,.int .i64 (i:Nat))]) (λ_=>(Bl4::own)) (λi _=>(a+1)<=i/\i<=(b-1)+1/\Go.Sort.scanUp (λx=>lt x d1[a]!) d1 (b-1) i=Go.Sort.scanUp (λx=>lt x d1[a]!) d1 (b-1) (a+1)) (λi=>(b-1)+1-i) (a+1) sM oR ⟨AS _,by omega,rfl⟩ ?_;intro i G hG hP;obtain⟨hi1,hi2,hi3⟩:=hP;have hvG:=hBl4.mono hG;refine aj ?_;refine WT.split 35 Z (λh=>?_) (λh=>?_)
  ·have h:i<=(b-1):=by simp at h;omega
   refine aj ?_;refine WT.bA hT hvG Z Z Z Z Z Z Z Z Z zo (λbl1 hbl1=>?_);refine WT.cz hT 0 hvG hbl1 (aV zo) Z Z Z Z Z Z Z Z Z (λl1 hl1=>?_);refine aj ?_;refine WT.bA hT hvG Z Z Z Z Z Z Z Z Z zo (λbl2 hbl2=>?_);refine WT.cz hT 0 hvG hbl2 (aV zo) Z Z Z Z Z Z Z Z Z (λl2 hl2=>?_);refine WT.eB hg hgb Z Z Z Z Z Z Z (hcmp G ((ar.le.refl F).trans hG) l1 l2 _ _ hl1 hl2) (λv hvz=>?_);obtain⟨z,rfl,hz⟩:=hvz;refine aj ?_;refine AW.cond Z (λhc=>?_) (λhc=>?_)
   ·have hlt:=hz.1 (by simpa using hc);refine aj ?_;refine AW.block ?_;refine aj ?_;refine⟨i+1,by omega,sM,ah.refl _,by omega,by omega,?_⟩;rw[<-hi3]
    conv=>rhs;rw[Go.Sort.scanUp]
    rw[By (by simp[h,hlt])]
   ·have hlt:=(SV.2 (λhh=>absurd (hz.2 hh) (by simpa using hc)):lt d1[i]! d1[a]! = false);refine AW.exit ?_;refine⟨(),bI.of_map (by rw[<-hi3,Go.Sort.scanUp,AT (by simp[hlt])];rfl),ah.refl _,trivial⟩
  ·have h:¬i<=(b-1):=by simp at h;omega
   refine aj ?_;refine AW.cond Z (λh=>(by cases h)) (λ_=>?_);refine AW.exit ?_;refine⟨(),bI.of_map (by rw[<-hi3,Go.Sort.scanUp,AT (by simp[h])];rfl),ah.refl _,trivial⟩
 rw[hi1];have hv1:=hBl4.mono hF1;refine AW.seq ?_;refine AW.Fs (S:=Unit) (λ_=>[(13,.int .i64 (Go.Sort.scanDown (λx=>!lt x d1[a]!) d1 i1 (b-1):Nat))]) (λ_=>(Bl4::own)) (λ_ _=>True) ?_ (λ_ F2 hF2 _=>?_)
 ·refine AW.block ?_;refine AW.cm (S:=Nat) (λj=>[(13,.int .i64 (j:Nat))]) (λ_=>(Bl4::own)) (λj _=>j<=(b-1)/\i1<=j+1/\Go.Sort.scanDown (λx=>!lt x d1[a]!) d1 i1 j=Go.Sort.scanDown (λx=>!lt x d1[a]!) d1 i1 (b-1)) (λj=>j) (b-1) sM oR ⟨AS _,by omega,rfl⟩ ?_;intro j G hG hP;obtain⟨hj1,hj2,hj3⟩:=hP;have hvG:=hv1.mono hG;have one:∀q,i1<=j->(λx=>!lt x d1[a]!) d1[j]! = q->Go.Sort.scanDown (λx=>!lt x d1[a]!) d1 i1 j=if q=true then Go.Sort.scanDown (λx=>!lt x d1[a]!) d1 i1 (j-1) else j:=by
   intro q h1 h2;cases j with
   | zero=>omega
   | succ k=>
    rw[Go.Sort.scanDown,Tz];subst h2;simp[h1]
  refine aj ?_;refine WT.split 53 Z (λh=>?_) (λh=>?_)
  ·have h:i1<=j:=by simp at h;omega
   refine aj ?_;refine WT.bA hT hvG Z Z Z Z Z Z Z Z Z zo (λbl1 hbl1=>?_);refine WT.cz hT 0 hvG hbl1 (aV zo) Z Z Z Z Z Z Z Z Z (λl1 hl1=>?_);refine aj ?_;refine WT.bA hT hvG Z Z Z Z Z Z Z Z Z zo (λbl2 hbl2=>?_);refine WT.cz hT 0 hvG hbl2 (aV zo) Z Z Z Z Z Z Z Z Z (λl2 hl2=>?_);refine WT.eB hg hgb Z Z Z Z Z Z Z (hcmp G (hF1.trans hG) l1 l2 _ _ hl1 hl2) (λv hvz=>?_);obtain⟨z,rfl,hz⟩:=hvz;refine aj ?_;refine AW.cond Z (λhc=>?_) (λhc=>?_)
   ·have hlt:=(SV.2 (λhh=>absurd (hz.2 hh) (by simpa using hc)):lt d1[j]! d1[a]! = false);refine aj ?_;refine AW.block ?_;refine aj ?_;refine⟨j-1,by omega,sM,ah.refl _,by omega,by omega,?_⟩;rw[<-hj3,one true h (by simp[hlt]),By rfl]
   ·have hlt:=hz.1 (by simpa using hc);refine AW.exit ?_;refine⟨(),bI.of_map (by rw[<-hj3,one false h (by simp[hlt]),AT (by decide)];rfl),ah.refl _,trivial⟩
  ·have h:¬i1<=j:=by simp at h;omega
   refine aj ?_;refine AW.cond Z (λh=>(by cases h)) (λ_=>?_);refine AW.exit ?_;have e:Go.Sort.scanDown (λx=>!lt x d1[a]!) d1 i1 j=j:=by
    cases j with
    | zero=>rfl
    | succ k=>rw[Go.Sort.scanDown,AT (by simp;omega)]
   refine⟨(),bI.of_map (by rw[<-hj3,e];rfl),ah.refl _,trivial⟩
 rw[hj1];have hv2:=hv1.mono hF2;refine aj ?_;have hpart:Go.Sort.partition lt d a b pivot=if i1 > j1 then (j1,true,Go.Sort.swp d1 j1 a) else
   ((Go.Sort.partLoop lt a (i1+1) (j1-1) (Go.Sort.swp d1 i1 j1)).1,false,Go.Sort.swp (Go.Sort.partLoop lt a (i1+1) (j1-1) (Go.Sort.swp d1 i1 j1)).2 (Go.Sort.partLoop lt a (i1+1) (j1-1) (Go.Sort.swp d1 i1 j1)).1 a):=by
  simp only[Go.Sort.partition,hd1,hi1,hj1]
 refine AW.cond Z (λh=>?_) (λh=>?_)
 ·have h:j1<i1:=by simp at h;omega
  refine aj ?_;refine WT.bA hT hv2 Z Z Z Z Z Z Z Z Z zo (λbl1 hbl1=>?_);refine WT.cz hT 0 hv2 hbl1 (aV zo) Z Z Z Z Z Z Z Z Z (λl1 hl1=>?_);refine aj ?_;refine WT.bA hT hv2 Z Z Z Z Z Z Z Z Z zo (λbl2 hbl2=>?_);refine WT.cz hT 0 hv2 hbl2 (aV zo) Z Z Z Z Z Z Z Z Z (λl2 hl2=>?_);refine WT.bA hT hv2 Z Z Z Z Z Z Z Z Z zo (λbl3 hbl3=>?_);refine WT.qC (y:=d1[a]!) hT 0 hv2 hbl3 (gE (by simp;omega)) Z Z Z Z Z hl1 Z (λ_=>rfl) Z (λBl3 hBl3=>?_);refine WT.bA hT hBl3 Z Z Z Z Z Z Z Z Z zo (λbl4 hbl4=>?_)
  refine WT.qC (y:=d1[j1]!) hT 0 hBl3 hbl4 (gE (by simp;omega)) Z Z Z Z Z hl2 Z (λ_=>rfl) Z (λBl4 hBl4=>?_);rw[<-dF] at hBl4;refine aj ?_;refine AW.ret ⟨_,[_],⟨_,_,rfl,⟨_,_,rfl,rfl,rfl⟩,rfl⟩,bY,_,rfl,?_,?_⟩
  ·rw[hpart,By h];rfl
  ·rw[hpart,By h];exact hBl4
 ·have h:¬j1<i1:=by simp at h;omega
  have hlt1:i1<j1:=by
   rcases R2 i1 j1 with h1 | h1
   ·exact h1
   ·obtain rfl:i1=j1:=by omega
    have e1:=u4 zo;have e2:=v4 (AS _) zo;rw[e1] at e2;cases e2
  rw[AT h] at hpart;refine aj ?_;refine WT.bA hT hv2 Z Z Z Z Z Z Z Z Z zo (λbl1 hbl1=>?_);refine WT.cz hT 0 hv2 hbl1 (aV zo) Z Z Z Z Z Z Z Z Z (λl1 hl1=>?_);refine aj ?_;refine WT.bA hT hv2 Z Z Z Z Z Z Z Z Z zo (λbl2 hbl2=>?_);refine WT.cz hT 0 hv2 hbl2 (aV zo) Z Z Z Z Z Z Z Z Z (λl2 hl2=>?_);refine WT.bA hT hv2 Z Z Z Z Z Z Z Z Z zo (λbl3 hbl3=>?_);refine WT.qC (y:=d1[j1]!) hT 0 hv2 hbl3 (gE (by simp;omega)) Z Z Z Z Z hl1 Z (λ_=>rfl) Z (λBl3 hBl3=>?_);refine WT.bA hT hBl3 Z Z Z Z Z Z Z Z Z zo (λbl4 hbl4=>?_)
  refine WT.qC (y:=d1[i1]!) hT 0 hBl3 hbl4 (gE (by simp;omega)) Z Z Z Z Z hl2 Z (λ_=>rfl) Z (λBl4 hBl4=>?_);rw[<-dF] at hBl4;refine aj ?_;refine AW.Fs (S:=Nat×VS cY) (λs=>[(12,.int .i64 (s.1:Nat)),(13,.int .i64 (s.2.i:Nat))]) (λs=>s.2.B::own) (λs G=>dM cw G a0 m c s.2.B s.2.d.toList/\a<=s.2.i/\s.2.i<b/\(s.2.i,s.2.d)=Go.Sort.partLoop lt a (i1+1) (j1-1) (Go.Sort.swp d1 i1 j1)) ?_ (λs F3 hF3 hP=>?_)
  ·refine AW.block ?_;refine AW.cm (S:=Nat×VS cY) (λs=>[(12,.int .i64 (s.1:Nat)),(13,.int .i64 (s.2.i:Nat))]) (λs=>s.2.B::own) (λs G=>dM cw G a0 m c s.2.B s.2.d.toList/\a<s.1/\s.1<=s.2.i+1/\s.2.i<b/\Go.Sort.partLoop lt a s.1 s.2.i s.2.d=Go.Sort.partLoop lt a (i1+1) (j1-1) (Go.Sort.swp d1 i1 j1)) (λs=>s.2.i+1-s.1) (i1+1,⟨j1-1,Go.Sort.swp d1 i1 j1,Bl4⟩)
    sM oR ⟨hBl4,by dsimp only;omega,by dsimp only;omega,by dsimp only;omega,rfl⟩ ?_
   intro u F4 hF4 hP4;obtain⟨hv4,ha4,hij4,hb4,heq4⟩:=hP4;have hF4':=(hF1.trans hF2).trans hF4;have hsz4:m=u.2.d.size:=hv4.len;obtain⟨i2,hi2⟩:∃i2,Go.Sort.scanUp (λx=>lt x u.2.d[a]!) u.2.d u.2.i u.1=i2:=⟨_,rfl⟩;obtain⟨j2,hj2⟩:∃j2,Go.Sort.scanDown (λx=>!lt x u.2.d[a]!) u.2.d i2 u.2.i=j2:=⟨_,rfl⟩;obtain⟨w1,w2,w3,w4⟩:=Go.Sort.scanUp_spec (λx=>lt x u.2.d[a]!) u.2.d u.2.i _ u.1 rfl;obtain⟨x1,x2,x3,x4⟩:=Go.Sort.scanDown_spec (λx=>!lt x u.2.d[a]!) u.2.d i2 u.2.i;rw[hi2] at w1 w2 w4;rw[hj2] at x1 x2 x4;have w2:=w2 hij4;have x2:=x2 zo;have hloop:=Go.Sort.partLoop_eq lt a u.1 u.2.i u.2.d
   rw[hi2,hj2,heq4] at hloop;refine AW.block ?_;refine AW.seq ?_;refine AW.Fs (S:=Unit) (λ_=>[(12,.int .i64 (Go.Sort.scanUp (λx=>lt x u.2.d[a]!) u.2.d u.2.i u.1:Nat))]) (λ_=>(u.2.B::own)) (λ_ _=>True) ?_ (λ_ F5 hF5 _=>?_)
   ·refine AW.block ?_;refine AW.cm (S:=Nat) (λi=>[(12,.int .i64 (i:Nat))]) (λ_=>(u.2.B::own)) (λi _=>u.1<=i/\i<=u.2.i+1/\Go.Sort.scanUp (λx=>lt x u.2.d[a]!) u.2.d u.2.i i=Go.Sort.scanUp (λx=>lt x u.2.d[a]!) u.2.d u.2.i u.1) (λi=>u.2.i+1-i) u.1 sM oR ⟨AS _,by omega,rfl⟩ ?_;intro i G hG hP;obtain⟨hi1,hi2,hi3⟩:=hP;have hvG:=hv4.mono hG;refine aj ?_;refine WT.split 108 Z (λh=>?_) (λh=>?_)
    ·have h:i<=u.2.i:=by simp at h;omega
     refine aj ?_;refine WT.bA hT hvG Z Z Z Z Z Z Z Z Z zo (λbl1 hbl1=>?_);refine WT.cz hT 0 hvG hbl1 (aV zo) Z Z Z Z Z Z Z Z Z (λl1 hl1=>?_);refine aj ?_;refine WT.bA hT hvG Z Z Z Z Z Z Z Z Z zo (λbl2 hbl2=>?_);refine WT.cz hT 0 hvG hbl2 (aV zo) Z Z Z Z Z Z Z Z Z (λl2 hl2=>?_);refine WT.eB hg hgb Z Z Z Z Z Z Z (hcmp G (hF4'.trans hG) l1 l2 _ _ hl1 hl2) (λv hvz=>?_);obtain⟨z,rfl,hz⟩:=hvz;refine aj ?_;refine AW.cond Z (λhc=>?_) (λhc=>?_)
     ·have hlt:=hz.1 (by simpa using hc);refine aj ?_;refine AW.block ?_;refine aj ?_;refine⟨i+1,by omega,sM,ah.refl _,by omega,by omega,?_⟩;rw[<-hi3]
      conv=>rhs;rw[Go.Sort.scanUp]
      rw[By (by simp[h,hlt])]
     ·have hlt:=(SV.2 (λhh=>absurd (hz.2 hh) (by simpa using hc)):lt u.2.d[i]! u.2.d[a]! = false);refine AW.exit ?_;refine⟨(),bI.of_map (by rw[<-hi3,Go.Sort.scanUp,AT (by simp[hlt])];rfl),ah.refl _,trivial⟩
    ·have h:¬i<=u.2.i:=by simp at h;omega
     refine aj ?_;refine AW.cond Z (λh=>(by cases h)) (λ_=>?_);refine AW.exit ?_;refine⟨(),bI.of_map (by rw[<-hi3,Go.Sort.scanUp,AT (by simp[h])];rfl),ah.refl _,trivial⟩
   rw[hi2];have hv5:=hv4.mono hF5;have hF5':=hF4'.trans hF5;refine AW.seq ?_;refine AW.Fs (S:=Unit) (λ_=>[(13,.int .i64 (Go.Sort.scanDown (λx=>!lt x u.2.d[a]!) u.2.d i2 u.2.i:Nat))]) (λ_=>(u.2.B::own)) (λ_ _=>True) ?_ (λ_ F6 hF6 _=>?_)
   ·refine AW.block ?_;refine AW.cm (S:=Nat) (λj=>[(13,.int .i64 (j:Nat))]) (λ_=>(u.2.B::own)) (λj _=>j<=u.2.i/\i2<=j+1/\Go.Sort.scanDown (λx=>!lt x u.2.d[a]!) u.2.d i2 j=Go.Sort.scanDown (λx=>!lt x u.2.d[a]!) u.2.d i2 u.2.i) (λj=>j) u.2.i sM oR ⟨AS _,by omega,rfl⟩ ?_;intro j G hG hP;obtain⟨hj1,hj2,hj3⟩:=hP;have hvG:=hv5.mono hG;have one:∀q,i2<=j->(λx=>!lt x u.2.d[a]!) u.2.d[j]! = q->Go.Sort.scanDown (λx=>!lt x u.2.d[a]!) u.2.d i2 j=if q=true then Go.Sort.scanDown (λx=>!lt x u.2.d[a]!) u.2.d i2 (j-1) else j:=by
     intro q h1 h2;cases j with
     | zero=>omega
     | succ k=>
      rw[Go.Sort.scanDown,Tz];subst h2;simp[h1]
    refine aj ?_;refine WT.split 126 Z (λh=>?_) (λh=>?_)
    ·have h:i2<=j:=by simp at h;omega
     refine aj ?_;refine WT.bA hT hvG Z Z Z Z Z Z Z Z Z zo (λbl1 hbl1=>?_);refine WT.cz hT 0 hvG hbl1 (aV zo) Z Z Z Z Z Z Z Z Z (λl1 hl1=>?_);refine aj ?_;refine WT.bA hT hvG Z Z Z Z Z Z Z Z Z zo (λbl2 hbl2=>?_);refine WT.cz hT 0 hvG hbl2 (aV zo) Z Z Z Z Z Z Z Z Z (λl2 hl2=>?_);refine WT.eB hg hgb Z Z Z Z Z Z Z (hcmp G (hF5'.trans hG) l1 l2 _ _ hl1 hl2) (λv hvz=>?_);obtain⟨z,rfl,hz⟩:=hvz;refine aj ?_;refine AW.cond Z (λhc=>?_) (λhc=>?_)
     ·have hlt:=(SV.2 (λhh=>absurd (hz.2 hh) (by simpa using hc)):lt u.2.d[j]! u.2.d[a]! = false);refine aj ?_;refine AW.block ?_;refine aj ?_;refine⟨j-1,by omega,sM,ah.refl _,by omega,by omega,?_⟩;rw[<-hj3,one true h (by simp[hlt]),By rfl]
     ·have hlt:=hz.1 (by simpa using hc);refine AW.exit ?_;refine⟨(),bI.of_map (by rw[<-hj3,one false h (by simp[hlt]),AT (by decide)];rfl),ah.refl _,trivial⟩
    ·have h:¬i2<=j:=by simp at h;omega
     refine aj ?_;refine AW.cond Z (λh=>(by cases h)) (λ_=>?_);refine AW.exit ?_;have e:Go.Sort.scanDown (λx=>!lt x u.2.d[a]!) u.2.d i2 j=j:=by
      cases j with
      | zero=>rfl
      | succ k=>rw[Go.Sort.scanDown,AT (by simp;omega)]
     refine⟨(),bI.of_map (by rw[<-hj3,e];rfl),ah.refl _,trivial⟩
   rw[hj2];have hv6:=hv5.mono hF6;refine aj ?_;refine AW.cond Z (λh=>?_) (λh=>?_)
   ·have h:j2<i2:=by simp at h;omega
    refine AW.exit ?_;refine⟨(i2,⟨j2,u.2.d,u.2.B⟩),sM,ah.refl _,hv6,by dsimp only;omega,by dsimp only;omega,?_⟩;rw[hloop,By h]
   ·have h:¬j2<i2:=by simp at h;omega
    have hlt2:i2<j2:=by
     rcases R2 i2 j2 with h1 | h1
     ·exact h1
     ·obtain rfl:i2=j2:=by omega
      have e1:=w4 zo;have e2:=x4 (AS _) zo;rw[e1] at e2;cases e2
    refine aj ?_;refine WT.bA hT hv6 Z Z Z Z Z Z Z Z Z zo (λbl5 hbl5=>?_);refine WT.cz hT 0 hv6 hbl5 (aV zo) Z Z Z Z Z Z Z Z Z (λl5 hl5=>?_);refine aj ?_;refine WT.bA hT hv6 Z Z Z Z Z Z Z Z Z zo (λbl6 hbl6=>?_);refine WT.cz hT 0 hv6 hbl6 (aV zo) Z Z Z Z Z Z Z Z Z (λl6 hl6=>?_);refine WT.bA hT hv6 Z Z Z Z Z Z Z Z Z zo (λbl7 hbl7=>?_);refine WT.qC (y:=u.2.d[j2]!) hT 0 hv6 hbl7 (gE (by simp;omega)) Z Z Z Z Z hl5 Z (λ_=>rfl) Z (λBl7 hBl7=>?_);refine WT.bA hT hBl7 Z Z Z Z Z Z Z Z Z zo (λbl8 hbl8=>?_)
    refine WT.qC (y:=u.2.d[i2]!) hT 0 hBl7 hbl8 (gE (by simp;omega)) Z Z Z Z Z hl6 Z (λ_=>rfl) Z (λBl8 hBl8=>?_);rw[<-dF] at hBl8;refine aj ?_;refine⟨(i2+1,⟨j2-1,Go.Sort.swp u.2.d i2 j2,Bl8⟩),by dsimp only;omega,sM,ah.refl _,hBl8,by dsimp only;omega,by dsimp only;omega,by dsimp only;omega,?_⟩;rw[hloop,AT h]
  ·obtain⟨hv3,ha3,hb3,heq3⟩:=hP;have hsz3:m=s.2.d.size:=hv3.len;rw[<-heq3] at hpart;refine aj ?_;refine WT.bA hT hv3 Z Z Z Z Z Z Z Z Z zo (λbl5 hbl5=>?_);refine WT.cz hT 0 hv3 hbl5 (aV zo) Z Z Z Z Z Z Z Z Z (λl5 hl5=>?_);refine aj ?_;refine WT.bA hT hv3 Z Z Z Z Z Z Z Z Z zo (λbl6 hbl6=>?_);refine WT.cz hT 0 hv3 hbl6 (aV zo) Z Z Z Z Z Z Z Z Z (λl6 hl6=>?_);refine WT.bA hT hv3 Z Z Z Z Z Z Z Z Z zo (λbl7 hbl7=>?_);refine WT.qC (y:=s.2.d[a]!) hT 0 hv3 hbl7 (gE (by simp;omega)) Z Z Z Z Z hl5 Z (λ_=>rfl) Z (λBl7 hBl7=>?_)
   refine WT.bA hT hBl7 Z Z Z Z Z Z Z Z Z zo (λbl8 hbl8=>?_);refine WT.qC (y:=s.2.d[s.2.i]!) hT 0 hBl7 hbl8 (gE (by simp;omega)) Z Z Z Z Z hl6 Z (λ_=>rfl) Z (λBl8 hBl8=>?_);rw[<-dF] at hBl8;refine aj ?_;refine AW.ret ⟨_,[_],⟨_,_,rfl,⟨_,_,rfl,rfl,rfl⟩,rfl⟩,bY,_,rfl,?_,?_⟩
   ·rw[hpart];rfl
   ·rw[hpart];exact hBl8):p:=h
namespace Nky
abbrev xF:=Tryz.func231
end Nky
open Nky in
theorem Cr(F:ar){lt:Key->Key->Bool}{g:Nat}{first capt:List Value}(hc:dV dB lt F g first capt){a0:Option Addr}{m c:Nat}{B:List (Nat×aE)}{d:Array Key}(hv:dM dB F a0 m c B d.toList)(a b pivot:Nat)(hp1:a<=pivot)(hp2:pivot<b)(hb:b<=m)(hm:m<=1000000) :
  Abs.Spec CC 231 [.slice a0 m c,.int .i64 a,.int .i64 b,.int .i64 pivot,.func (.func g) ⟨first⟩ ⟨capt⟩] F [B] λF' v o=>∃B',o=[B']/\v=.tuple ⟨[.int .i64 ((Go.Sort.partition lt d a b pivot).1:Nat),.bool (Go.Sort.partition lt d a b pivot).2.1]⟩/\dM dB F' a0 m c B' (Go.Sort.partition lt d a b pivot).2.2.toList:=mR
theorem kM{p:Prop} (h:p:=by
 obtain⟨⟨fn,hg,hgb⟩,hcmp⟩:=hc;have hsz:m=d.size:=hv.len;refine Abs.Spec.fn (n:=90) zV rfl rfl λown=>?_;refine aj ?_;refine WT.bA hT hv Z Z Z Z Z Z Z Z Z zo (λbl1 hbl1=>?_);refine WT.cz hT 0 hv hbl1 (aV zo) Z Z Z Z Z Z Z Z Z (λl1 hl1=>?_);refine aj ?_;refine WT.bA hT hv Z Z Z Z Z Z Z Z Z zo (λbl2 hbl2=>?_);refine WT.cz hT 0 hv hbl2 (aV zo) Z Z Z Z Z Z Z Z Z (λl2 hl2=>?_);refine WT.bA hT hv Z Z Z Z Z Z Z Z Z zo (λbl3 hbl3=>?_);refine WT.qC (y:=d[pivot]!) hT 0 hv hbl3 (gE (by simp;omega)) Z Z Z Z Z hl1 Z (λ_=>rfl) Z (λBl3 hBl3=>?_)
 refine WT.bA hT hBl3 Z Z Z Z Z Z Z Z Z zo (λbl4 hbl4=>?_);refine WT.qC (y:=d[a]!) hT 0 hBl3 hbl4 (gE (by simp;omega)) Z Z Z Z Z hl2 Z (λ_=>rfl) Z (λBl4 hBl4=>?_);rw[<-dF] at hBl4;obtain⟨d1,hd1⟩:∃d1,Go.Sort.swp d a pivot=d1:=⟨_,rfl⟩;rw[hd1] at hBl4;have hpart:Go.Sort.partitionEqual lt d a b pivot=Go.Sort.partEqLoop lt a (a+1) (b-1) d1:=by rw[Go.Sort.partitionEqual,hd1]
 refine aj ?_;refine AW.Fs (S:=Nat×VS cY) (λs=>[(11,.int .i64 (s.1:Nat)),(12,.int .i64 (s.2.i:Nat))]) (λs=>s.2.B::own) (λs G=>dM cw G a0 m c s.2.B s.2.d.toList/\(s.1,s.2.d)=Go.Sort.partEqLoop lt a (a+1) (b-1) d1) ?_ (λs F3 hF3 hP=>?_)
 ·refine AW.block ?_;refine AW.cm (S:=Nat×VS cY) (λs=>[(11,.int .i64 (s.1:Nat)),(12,.int .i64 (s.2.i:Nat))]) (λs=>s.2.B::own) (λs G=>dM cw G a0 m c s.2.B s.2.d.toList/\a<s.1/\s.1<=s.2.i+1/\s.2.i<b/\Go.Sort.partEqLoop lt a s.1 s.2.i s.2.d=Go.Sort.partEqLoop lt a (a+1) (b-1) d1) (λs=>s.2.i+1-s.1) (a+1,⟨b-1,d1,Bl4⟩)
   sM oR ⟨hBl4,by dsimp only;omega,by dsimp only;omega,by dsimp only;omega,rfl⟩ ?_
  intro u F4 hF4 hP4;obtain⟨hv4,ha4,hij4,hb4,heq4⟩:=hP4;have hsz4:m=u.2.d.size:=hv4.len;obtain⟨i2,hi2⟩:∃i2,Go.Sort.scanUp (λx=>!lt u.2.d[a]! x) u.2.d u.2.i u.1=i2:=⟨_,rfl⟩;obtain⟨j2,hj2⟩:∃j2,Go.Sort.scanDown (λx=>lt u.2.d[a]! x) u.2.d i2 u.2.i=j2:=⟨_,rfl⟩;obtain⟨w1,w2,w3,w4⟩:=Go.Sort.scanUp_spec (λx=>!lt u.2.d[a]! x) u.2.d u.2.i _ u.1 rfl;obtain⟨x1,x2,x3,x4⟩:=Go.Sort.scanDown_spec (λx=>lt u.2.d[a]! x) u.2.d i2 u.2.i;rw[hi2] at w1 w2 w4;rw[hj2] at x1 x2 x4;have w2:=w2 hij4;have x2:=x2 zo;have hloop:=Go.Sort.partEqLoop_eq lt a u.1 u.2.i u.2.d;rw[hi2,hj2,heq4] at hloop
  refine AW.block ?_;refine AW.seq ?_;refine AW.Fs (S:=Unit) (λ_=>[(11,.int .i64 (Go.Sort.scanUp (λx=>!lt u.2.d[a]! x) u.2.d u.2.i u.1:Nat))]) (λ_=>(u.2.B::own)) (λ_ _=>True) ?_ (λ_ F5 hF5 _=>?_)
  ·refine AW.block ?_;refine AW.cm (S:=Nat) (λi=>[(11,.int .i64 (i:Nat))]) (λ_=>(u.2.B::own)) (λi _=>u.1<=i/\i<=u.2.i+1/\Go.Sort.scanUp (λx=>!lt u.2.d[a]! x) u.2.d u.2.i i=Go.Sort.scanUp (λx=>!lt u.2.d[a]! x) u.2.d u.2.i u.1) (λi=>u.2.i+1-i) u.1 sM oR ⟨AS _,by omega,rfl⟩ ?_;intro i G hG hP;obtain⟨hi1,hi2,hi3⟩:=hP;have hvG:=hv4.mono hG;refine aj ?_;refine WT.split 34 Z (λh=>?_) (λh=>?_)
   ·have h:i<=u.2.i:=by simp at h;omega
    refine aj ?_;refine WT.bA hT hvG Z Z Z Z Z Z Z Z Z zo (λbl1 hbl1=>?_);refine WT.cz hT 0 hvG hbl1 (aV zo) Z Z Z Z Z Z Z Z Z (λl1 hl1=>?_);refine aj ?_;refine WT.bA hT hvG Z Z Z Z Z Z Z Z Z zo (λbl2 hbl2=>?_);refine WT.cz hT 0 hvG hbl2 (aV zo) Z Z Z Z Z Z Z Z Z (λl2 hl2=>?_);refine WT.eB hg hgb Z Z Z Z Z Z Z (hcmp G (hF4.trans hG) l1 l2 _ _ hl1 hl2) (λv hvz=>?_);obtain⟨z,rfl,hz⟩:=hvz;refine aj ?_;refine AW.cond Z (λhc=>?_) (λhc=>?_)
    ·have hlt:=(SV.2 (λhh=>absurd (hz.2 hh) (by simpa using hc)):lt u.2.d[a]! u.2.d[i]! = false);refine aj ?_;refine AW.block ?_;refine aj ?_;refine⟨i+1,by omega,sM,ah.refl _,by omega,by omega,?_⟩;rw[<-hi3]
     conv=>rhs;rw[Go.Sort.scanUp]
     rw[By (by simp[h,hlt])]
    ·have hlt:=hz.1 (by simpa using hc);refine AW.exit ?_;refine⟨(),bI.of_map (by rw[<-hi3,Go.Sort.scanUp,AT (by simp[hlt])];rfl),ah.refl _,trivial⟩
   ·have h:¬i<=u.2.i:=by simp at h;omega
    refine aj ?_;refine AW.cond Z (λh=>(by cases h)) (λ_=>?_);refine AW.exit ?_;refine⟨(),bI.of_map (by rw[<-hi3,Go.Sort.scanUp,AT (by simp[h])];rfl),ah.refl _,trivial⟩
  rw[hi2];have hv5:=hv4.mono hF5;have hF5':=hF4.trans hF5;refine AW.seq ?_;refine AW.Fs (S:=Unit) (λ_=>[(12,.int .i64 (Go.Sort.scanDown (λx=>lt u.2.d[a]! x) u.2.d i2 u.2.i:Nat))]) (λ_=>(u.2.B::own)) (λ_ _=>True) ?_ (λ_ F6 hF6 _=>?_)
  ·refine AW.block ?_;refine AW.cm (S:=Nat) (λj=>[(12,.int .i64 (j:Nat))]) (λ_=>(u.2.B::own)) (λj _=>j<=u.2.i/\i2<=j+1/\Go.Sort.scanDown (λx=>lt u.2.d[a]! x) u.2.d i2 j=Go.Sort.scanDown (λx=>lt u.2.d[a]! x) u.2.d i2 u.2.i) (λj=>j) u.2.i sM oR ⟨AS _,by omega,rfl⟩ ?_;intro j G hG hP;obtain⟨hj1,hj2,hj3⟩:=hP;have hvG:=hv5.mono hG;have one:∀q,i2<=j->(λx=>lt u.2.d[a]! x) u.2.d[j]! = q->Go.Sort.scanDown (λx=>lt u.2.d[a]! x) u.2.d i2 j=if q=true then Go.Sort.scanDown (λx=>lt u.2.d[a]! x) u.2.d i2 (j-1) else j:=by
    intro q h1 h2;cases j with
    | zero=>omega
    | succ k=>
     rw[Go.Sort.scanDown,Tz];subst h2;simp[h1]
   refine aj ?_;refine WT.split 53 Z (λh=>?_) (λh=>?_)
   ·have h:i2<=j:=by simp at h;omega
    refine aj ?_;refine WT.bA hT hvG Z Z Z Z Z Z Z Z Z zo (λbl1 hbl1=>?_);refine WT.cz hT 0 hvG hbl1 (aV zo) Z Z Z Z Z Z Z Z Z (λl1 hl1=>?_);refine aj ?_;refine WT.bA hT hvG Z Z Z Z Z Z Z Z Z zo (λbl2 hbl2=>?_);refine WT.cz hT 0 hvG hbl2 (aV zo) Z Z Z Z Z Z Z Z Z (λl2 hl2=>?_);refine WT.eB hg hgb Z Z Z Z Z Z Z (hcmp G (hF5'.trans hG) l1 l2 _ _ hl1 hl2) (λv hvz=>?_);obtain⟨z,rfl,hz⟩:=hvz;refine aj ?_;refine AW.cond Z (λhc=>?_) (λhc=>?_)
    ·have hlt:=hz.1 (by simpa using hc);refine aj ?_;refine AW.block ?_;refine aj ?_;refine⟨j-1,by omega,sM,ah.refl _,by omega,by omega,?_⟩;rw[<-hj3,one true h (by simp[hlt]),By rfl]
    ·have hlt:=(SV.2 (λhh=>absurd (hz.2 hh) (by simpa using hc)):lt u.2.d[a]! u.2.d[j]! = false);refine AW.exit ?_;refine⟨(),bI.of_map (by rw[<-hj3,one false h (by simp[hlt]),AT (by decide)];rfl),ah.refl _,trivial⟩
   ·have h:¬i2<=j:=by simp at h;omega
    refine aj ?_;refine AW.cond Z (λh=>(by cases h)) (λ_=>?_);refine AW.exit ?_;have e:Go.Sort.scanDown (λx=>lt u.2.d[a]! x) u.2.d i2 j=j:=by
     cases j with
     | zero=>rfl
     | succ k=>rw[Go.Sort.scanDown,AT (by simp;omega)]
    refine⟨(),bI.of_map (by rw[<-hj3,e];rfl),ah.refl _,trivial⟩
  rw[hj2];have hv6:=hv5.mono hF6;refine aj ?_;refine AW.cond Z (λh=>?_) (λh=>?_)
  ·have h:j2<i2:=by simp at h;omega
   refine AW.exit ?_;refine⟨(i2,⟨j2,u.2.d,u.2.B⟩),sM,ah.refl _,hv6,?_⟩;rw[hloop,By h]
  ·have h:¬j2<i2:=by simp at h;omega
   have hlt2:i2<j2:=by
    rcases R2 i2 j2 with h1 | h1
    ·exact h1
    ·obtain rfl:i2=j2:=by omega
     have e1:=w4 zo;have e2:=x4 (AS _) zo;rw[e2] at e1;cases e1
   refine aj ?_;refine WT.bA hT hv6 Z Z Z Z Z Z Z Z Z zo (λbl5 hbl5=>?_);refine WT.cz hT 0 hv6 hbl5 (aV zo) Z Z Z Z Z Z Z Z Z (λl5 hl5=>?_);refine aj ?_;refine WT.bA hT hv6 Z Z Z Z Z Z Z Z Z zo (λbl6 hbl6=>?_);refine WT.cz hT 0 hv6 hbl6 (aV zo) Z Z Z Z Z Z Z Z Z (λl6 hl6=>?_);refine WT.bA hT hv6 Z Z Z Z Z Z Z Z Z zo (λbl7 hbl7=>?_);refine WT.qC (y:=u.2.d[j2]!) hT 0 hv6 hbl7 (gE (by simp;omega)) Z Z Z Z Z hl5 Z (λ_=>rfl) Z (λBl7 hBl7=>?_);refine WT.bA hT hBl7 Z Z Z Z Z Z Z Z Z zo (λbl8 hbl8=>?_)
   refine WT.qC (y:=u.2.d[i2]!) hT 0 hBl7 hbl8 (gE (by simp;omega)) Z Z Z Z Z hl6 Z (λ_=>rfl) Z (λBl8 hBl8=>?_);rw[<-dF] at hBl8;refine aj ?_;refine⟨(i2+1,⟨j2-1,Go.Sort.swp u.2.d i2 j2,Bl8⟩),by dsimp only;omega,sM,ah.refl _,hBl8,by dsimp only;omega,by dsimp only;omega,by dsimp only;omega,?_⟩;rw[hloop,AT h]
 ·obtain⟨hv3,heq3⟩:=hP;refine aj ?_;refine AW.ret ⟨_,[_],⟨_,_,rfl,rfl,rfl⟩,bY,_,rfl,?_,?_⟩
  ·rw[hpart,<-heq3];rfl
  ·rw[hpart,<-heq3];exact hv3):p:=h
namespace Nky
abbrev zV:=Tryz.func230
end Nky
open Nky in
theorem xQ(F:ar){lt:Key->Key->Bool}{g:Nat}{first capt:List Value}(hc:dV dB lt F g first capt){a0:Option Addr}{m c:Nat}{B:List (Nat×aE)}{d:Array Key}(hv:dM dB F a0 m c B d.toList)(a b pivot:Nat)(hp1:a<=pivot)(hp2:pivot<b)(hb:b<=m)(hm:m<=1000000) :
  Abs.Spec CC 230 [.slice a0 m c,.int .i64 a,.int .i64 b,.int .i64 pivot,.func (.func g) ⟨first⟩ ⟨capt⟩] F [B] λF' v o=>∃B',o=[B']/\v=.int .i64 ((Go.Sort.partitionEqual lt d a b pivot).1:Nat)/\dM dB F' a0 m c B' (Go.Sort.partitionEqual lt d a b pivot).2.toList:=kM
theorem kK{p:Prop} (h:p:=by
 obtain⟨⟨fn,hg,hgb⟩,hcmp⟩:=hc;have hsz:m=d.size:=hv.len;refine Abs.Spec.fn (n:=32) oe rfl rfl λown=>?_;refine aj ?_;refine WT.bG hT hv Z Z Z Z Z Z Z Z Z (by simp;omega) (λx1 hx1 b1 off1 ro1 cs1 l1 hb1 hp1 hl1=>?_);obtain rfl:x1=d[b]!:=by rw[aV zo] at hx1;exact(BY hx1).symm
 refine WT.J2 hT hb1 hp1 Z Z Z Z Z Z Z Z ?_;refine aj ?_;refine WT.bG hT hv Z Z Z Z Z Z Z Z Z (by simp;omega) (λx2 hx2 b2 off2 ro2 cs2 l2 hb2 hp2 hl2=>?_);obtain rfl:x2=d[a]!:=by rw[aV zo] at hx2;exact(BY hx2).symm
 refine WT.J2 hT hb2 hp2 Z Z Z Z Z Z Z Z ?_;refine WT.eB hg hgb Z Z Z Z Z Z Z (hcmp F (ar.le.refl F) l1 l2 _ _ hl1 hl2) (λv hvz=>?_);obtain⟨z,rfl,hz⟩:=hvz;refine aj ?_;refine AW.cond Z (λhc=>?_) (λhc=>?_)
 ·have hlt:=hz.1 (by simpa using hc);have e:Go.Sort.order2 lt d a b sw=(b,a,sw+1):=by rw[Go.Sort.order2,By hlt]
  refine aj ?_;exact AW.ret ⟨_,[_],⟨_,_,rfl,⟨_,_,rfl,rfl,rfl⟩,rfl⟩,bY,_,rfl,(by rw[e];first | done | rfl),(by rw[e];first | done | rfl)⟩
 ·have hlt:lt d[b]! d[a]! = false:=SV.2 (λhh=>absurd (hz.2 hh) (by simpa using hc));have e:Go.Sort.order2 lt d a b sw=(a,b,sw):=by rw[Go.Sort.order2,AT (by rw[hlt];decide)]
  refine aj ?_;exact AW.ret ⟨_,[_],⟨_,_,rfl,⟨_,_,rfl,rfl,rfl⟩,rfl⟩,bY,_,rfl,(by rw[e];first | done | rfl),(by rw[e];first | done | rfl)⟩):p:=h
namespace Nky
abbrev oe:=Tryz.func279
end Nky
open Nky in
theorem xX(F:ar){lt:Key->Key->Bool}{g:Nat}{first capt:List Value}(hc:dV dB lt F g first capt){a0:Option Addr}{m c:Nat}{d:Array Key}(hv:bj dB F a0 m c d.toList)(a b:Nat)(ha:a<m)(hb:b<m)(hm:m<=1000000){ip sw:Nat}(hsw:sw<=1000) :
  Abs.Spec CC 279 [.slice a0 m c,.int .i64 a,.int .i64 b,.pointer (some ⟨ip,0,none⟩),.func (.func g) ⟨first⟩ ⟨capt⟩] F [[(ip,.cells false [.int .i64 sw])]] λF' v o=>∃B',o=[B']/\v=.tuple ⟨[.int .i64 ((Go.Sort.order2 lt d a b sw).1:Nat),.int .i64 ((Go.Sort.order2 lt d a b sw).2.1:Nat)]⟩/\B'=[(ip,.cells false [.int .i64 ((Go.Sort.order2 lt d a b sw).2.2:Nat)])]:=kK
theorem kS{p:Prop} (h:p:=by
 obtain⟨r1,hr1⟩:∃r,Go.Sort.order2 lt d a b sw=r:=⟨_,rfl⟩;obtain⟨r2,hr2⟩:∃r,Go.Sort.order2 lt d r1.2.1 c r1.2.2=r:=⟨_,rfl⟩;obtain⟨r3,hr3⟩:∃r,Go.Sort.order2 lt d r1.1 r2.1 r2.2.2=r:=⟨_,rfl⟩;have hmed:Go.Sort.median lt d a b c sw=(r3.2.1,r3.2.2):=by simp only[Go.Sort.median,hr1,hr2,hr3]
 have m1:=Go.Sort.order2_mem lt d a b sw;have m2:=Go.Sort.order2_mem lt d r1.2.1 c r1.2.2;have n1:=Go.Sort.order2_count lt d a b sw;have n2:=Go.Sort.order2_count lt d r1.2.1 c r1.2.2;rw[hr1] at m1 n1;rw[hr2] at m2 n2;have b1:r1.1<m/\r1.2.1<m:=by omega
 have b2:r2.1<m/\r2.2.1<m:=by omega
 refine Abs.Spec.fn (n:=41) wF rfl rfl λown=>?_;refine aj ?_;refine WT.cW 0 oe Z Z Z Z Z Z Z (λ_=>rfl) (sd _ hc hv a b ha hb hm zo) (λF1 v B1 hF1 hv1=>?_);obtain⟨rfl,rfl⟩:=hv1;rw[hr1];refine aj ?_;refine WT.cW 0 oe Z Z Z Z Z Z Z (λ_=>rfl) (sd _ (hc.mono hF1) (hv.mono hF1) r1.2.1 c b1.2 hcm hm (sw:=r1.2.2) zo) (λF2 v B2 hF2 hv2=>?_);obtain⟨rfl,rfl⟩:=hv2;rw[hr2];refine aj ?_
 refine WT.cW 0 oe Z Z Z Z Z Z Z (λ_=>rfl) (sd _ ((hc.mono hF1).mono hF2) ((hv.mono hF1).mono hF2) r1.1 r2.1 b1.1 b2.1 hm (sw:=r2.2.2) zo) (λF3 v B3 hF3 hv3=>?_);obtain⟨rfl,rfl⟩:=hv3;rw[hr3];refine aj ?_;exact AW.ret ⟨_,[_],⟨_,_,rfl,rfl,rfl⟩,bY,_,rfl,(by rw[hmed];first | done | rfl),(by rw[hmed])⟩):p:=h
namespace Nky
abbrev wF:=Tryz.func265
abbrev sd:=@xX
end Nky
open Nky in
theorem pP(F:ar){lt:Key->Key->Bool}{g:Nat}{first capt:List Value}(hc:dV dB lt F g first capt){a0:Option Addr}{m c0:Nat}{d:Array Key}(hv:bj dB F a0 m c0 d.toList)(a b c:Nat)(ha:a<m)(hb:b<m)(hcm:c<m)(hm:m<=1000000){ip sw:Nat}(hsw:sw<=900) :
  Abs.Spec CC 265 [.slice a0 m c0,.int .i64 a,.int .i64 b,.int .i64 c,.pointer (some ⟨ip,0,none⟩),.func (.func g) ⟨first⟩ ⟨capt⟩] F [[(ip,.cells false [.int .i64 sw])]] λF' v o=>∃B',o=[B']/\v=.int .i64 ((Go.Sort.median lt d a b c sw).1:Nat)/\B'=[(ip,.cells false [.int .i64 ((Go.Sort.median lt d a b c sw).2:Nat)])]:=kS
theorem xN(F:ar){lt:Key->Key->Bool}{g:Nat}{first capt:List Value}(hc:dV dB lt F g first capt){a0:Option Addr}{m c0:Nat}{d:Array Key}(hv:bj dB F a0 m c0 d.toList)(a:Nat)(ha:1<=a)(hb:a+1<m)(hm:m<=1000000){ip sw:Nat}(hsw:sw<=900) :
  Abs.Spec CC 264 [.slice a0 m c0,.int .i64 a,.pointer (some ⟨ip,0,none⟩),.func (.func g) ⟨first⟩ ⟨capt⟩] F [[(ip,.cells false [.int .i64 sw])]] λF' v o=>∃B',o=[B']/\v=.int .i64 ((Go.Sort.medianAdjacent lt d a sw).1:Nat)/\B'=[(ip,.cells false [.int .i64 ((Go.Sort.medianAdjacent lt d a sw).2:Nat)])]:=by
 refine Abs.Spec.fn (n:=18) Tryz.func264 rfl rfl λown=>?_;refine aj ?_;refine WT.cW 0 Tryz.func265 Z Z Z Z Z Z Z (λ_=>rfl) (pP _ hc hv (a-1) a (a+1) zo zo zo hm hsw) (λF1 v B1 hF1 hv1=>?_);obtain⟨rfl,rfl⟩:=hv1;refine aj ?_;exact AW.ret ⟨_,[_],⟨_,_,rfl,rfl,rfl⟩,bY,_,rfl,rfl,rfl⟩
theorem lL{p:Prop} (h:p:=by
 have hd4:(b-a) / 4*4<=b-a:=Nat.div_mul_le_self _ _;have hd3:3<=(b-a) / 4:=by omega
 obtain⟨e,he⟩:∃e,(b-a) / 4=e:=⟨_,rfl⟩;rw[he] at hd4 hd3;refine Abs.Spec.fn (n:=63) Bc rfl rfl λown=>?_;refine aj ?_;refine WT.aK hT Z Z Z Z Z Z (λi11 hi11=>?_);refine aj ?_;refine WT.Es 4 Z Z Z Z Z Z (by decide) zo ?_;refine WT.mulL 1 Z Z Z Z Z Z zo ?_;rw[he];refine aj ?_;refine WT.Es 4 Z Z Z Z Z Z (by decide) zo ?_;refine WT.mulL 2 Z Z Z Z Z Z zo ?_;rw[he];refine aj ?_;refine WT.Es 4 Z Z Z Z Z Z (by decide) zo ?_;refine WT.mulL 3 Z Z Z Z Z Z zo ?_;rw[he];refine aj ?_;refine AW.cond Z (λ_=>?_) (λh=>(by simp at h;omega))
 refine AW.jn (S:=Nat×Nat×Nat×Nat) (λs=>[(12,.int .i64 (s.1:Nat)),(13,.int .i64 (s.2.1:Nat)),(14,.int .i64 (s.2.2.1:Nat))]) (λs=>[(i11,.cells false [.int .i64 (s.2.2.2:Nat)])]::own) (λs _=>s.1<m/\s.2.1<m/\s.2.2.1<m/\s.2.2.2<=9/\Go.Sort.rawPivot lt d a b=Go.Sort.median lt d s.1 s.2.1 s.2.2.1 s.2.2.2) ?_ (λs F5 hF5 hP=>?_)
 ·refine aj ?_;refine AW.cond Z (λh=>?_) (λh=>?_)
  ·have h:50<=b-a:=by simp at h;omega
   have h12:12<=e:=by omega
   obtain⟨r1,hr1⟩:∃r,Go.Sort.medianAdjacent lt d (a+e*1) 0=r:=⟨_,rfl⟩;obtain⟨r2,hr2⟩:∃r,Go.Sort.medianAdjacent lt d (a+e*2) r1.2=r:=⟨_,rfl⟩;obtain⟨r3,hr3⟩:∃r,Go.Sort.medianAdjacent lt d (a+e*3) r2.2=r:=⟨_,rfl⟩;have m1:=Go.Sort.medianAdjacent_mem lt d (a+e*1) 0;have m2:=Go.Sort.medianAdjacent_mem lt d (a+e*2) r1.2;have m3:=Go.Sort.medianAdjacent_mem lt d (a+e*3) r2.2;have n1:=Go.Sort.medianAdjacent_count lt d (a+e*1) 0;have n2:=Go.Sort.medianAdjacent_count lt d (a+e*2) r1.2;have n3:=Go.Sort.medianAdjacent_count lt d (a+e*3) r2.2;rw[hr1] at m1 n1;rw[hr2] at m2 n2;rw[hr3] at m3 n3;refine aj ?_
   refine WT.cW 0 sE Z Z Z Z Z Z Z (λ_=>rfl) (qS _ hc hv (a+e*1) zo zo hm (sw:=0) zo) (λF1 v B1 hF1 hv1=>?_);obtain⟨rfl,rfl⟩:=hv1;rw[hr1];refine aj ?_;refine WT.cW 0 sE Z Z Z Z Z Z Z (λ_=>rfl) (qS _ (hc.mono hF1) (hv.mono hF1) (a+e*2) zo zo hm (sw:=r1.2) zo) (λF2 v B2 hF2 hv2=>?_);obtain⟨rfl,rfl⟩:=hv2;rw[hr2];refine aj ?_;refine WT.cW 0 sE Z Z Z Z Z Z Z (λ_=>rfl) (qS _ ((hc.mono hF1).mono hF2) ((hv.mono hF1).mono hF2) (a+e*3) zo zo hm (sw:=r2.2) zo) (λF3 v B3 hF3 hv3=>?_);obtain⟨rfl,rfl⟩:=hv3;rw[hr3];refine aj ?_
   refine⟨(r1.1,r2.1,r3.1,r3.2),sM,ah.refl _,by dsimp only;omega,by dsimp only;omega,by dsimp only;omega,by dsimp only;omega,?_⟩;rw[Go.Sort.rawPivot,By zo,By h,he,hr1,hr2,hr3]
  ·have h:¬50<=b-a:=by simp at h;omega
   refine AW.skip ?_;refine⟨(a+e*1,a+e*2,a+e*3,0),sM,ah.refl _,by dsimp only;omega,by dsimp only;omega,by dsimp only;omega,by dsimp only;omega,?_⟩;rw[Go.Sort.rawPivot,By zo,AT zo,he]
 ·obtain⟨q1,q2,q3,q4,q5⟩:=hP;obtain⟨r,hr⟩:∃r,Go.Sort.median lt d s.1 s.2.1 s.2.2.1 s.2.2.2=r:=⟨_,rfl⟩;have n1:=Go.Sort.median_count lt d s.1 s.2.1 s.2.2.1 s.2.2.2;rw[hr] at n1 q5;have hch:Go.Sort.choosePivot lt d a b=(r.1,Go.Sort.hintOf r.2):=by rw[Go.Sort.choosePivot_eq,q5]
  refine aj ?_;refine WT.cW 0 wF Z Z Z Z Z Z Z (λ_=>rfl) (Cu _ (hc.mono hF5) (hv.mono hF5) s.1 s.2.1 s.2.2.1 q1 q2 q3 hm (sw:=s.2.2.2) zo) (λF6 v B6 hF6 hv6=>?_);obtain⟨rfl,rfl⟩:=hv6;rw[hr];refine aj ?_;refine AW.block ?_;refine aj ?_;refine AW.cond Z (λh=>?_) (λh=>?_)
  ·have h:r.2=0:=by simp at h;omega
   refine aj ?_;refine AW.ret ⟨_,[],⟨_,_,rfl,⟨_,_,rfl,rfl,rfl⟩,rfl⟩,bY,rfl,?_⟩;rw[hch,h];rfl
  ·have h:r.2≠0:=by simp at h;omega
   refine aj ?_;refine AW.cond Z (λh2=>?_) (λh2=>?_)
   ·have h2:r.2=12:=by simp at h2;omega
    refine aj ?_;refine AW.ret ⟨_,[],⟨_,_,rfl,⟨_,_,rfl,rfl,rfl⟩,rfl⟩,bY,rfl,?_⟩;rw[hch,h2];rfl
   ·have h2:r.2≠12:=by simp at h2;omega
    refine aj ?_;refine AW.ret ⟨_,[],⟨_,_,rfl,⟨_,_,rfl,rfl,rfl⟩,rfl⟩,bY,rfl,?_⟩;rw[hch,show Go.Sort.hintOf r.2=.unknown by rw[Go.Sort.hintOf,AT h,AT h2]];rfl):p:=h
namespace Nky
abbrev Bc:=Tryz.func227
abbrev sE:=Tryz.func264
abbrev qS:=@xN
abbrev Cu:=@pP
end Nky
open Nky in
theorem A7(F:ar){lt:Key->Key->Bool}{g:Nat}{first capt:List Value}(hc:dV dB lt F g first capt){a0:Option Addr}{m c0:Nat}{d:Array Key}(hv:bj dB F a0 m c0 d.toList)(a b:Nat)(hab:a+13<=b)(hb:b<=m)(hm:m<=1000000) :
  Abs.Spec CC 227 [.slice a0 m c0,.int .i64 a,.int .i64 b,.func (.func g) ⟨first⟩ ⟨capt⟩] F [] λF' v o=>o=[]/\v=.tuple ⟨[.int .i64 ((Go.Sort.choosePivot lt d a b).1:Nat),.int .i64 (Go.Sort.hintCode (Go.Sort.choosePivot lt d a b).2)]⟩:=lL
theorem mX{p:Prop} (h:p:=by
 obtain⟨⟨fn,hg,hgb⟩,hcmp⟩:=hc;refine Abs.Spec.fn (n:=141) zO rfl rfl λown=>?_;refine aj ?_;refine AW.block ?_;refine AW.cm (S:=Nat×VS cY) (λs=>[(10,.int .i64 (s.1:Nat)),(9,.int .i64 (s.2.i:Nat))]) (λs=>s.2.B::own) (λs G=>dM cw G a0 m c s.2.B s.2.d.toList/\s.1<=5/\a+1<=s.2.i/\s.2.i<=b/\Go.Sort.partialIns lt a b (5-s.1) s.2.i s.2.d=Go.Sort.partialInsertionSort lt d a b) (λs=>5-s.1) (0,⟨a+1,d,B⟩)
  sM oR ⟨hv,R6 _,AS _,hab,rfl⟩ ?_
 intro u F1 hF1 hP;obtain⟨hv1,hk,hi1,hi2,heq⟩:=hP;refine aj ?_;refine AW.cond Z (λh=>?_) (λh=>?_)
 ·have h:u.1<5:=by simp at h;omega
  obtain⟨i2,hsc⟩:∃i2,Go.Sort.scanSorted lt u.2.d b u.2.i=i2:=⟨_,rfl⟩;rw[show 5-u.1=(5-(u.1+1))+1 by omega,Go.Sort.partialIns_succ,hsc] at heq;refine AW.skip ?_;refine AW.seq ?_;refine AW.block ?_;refine AW.jn (S:=Unit) (λ_=>[(9,.int .i64 (i2:Nat))]) (λ_=>u.2.B::own) (λ_ _=>u.2.i<=i2/\i2<=b) ?_ (λ_ F2 hF2 hi2'=>?_)
  ·refine AW.block ?_;refine AW.cm (S:=Nat) (λi=>[(9,.int .i64 (i:Nat))]) (λ_=>u.2.B::own) (λi _=>u.2.i<=i/\i<=b/\Go.Sort.scanSorted lt u.2.d b i=i2) (λi=>b-i) u.2.i sM oR ⟨AS _,hi2,hsc⟩ ?_;intro i G hG hP;obtain⟨j1,j2,j3⟩:=hP;have hvG:=hv1.mono hG;have hsz:m=u.2.d.size:=hv1.len;refine aj ?_;refine WT.split 22 Z (λh=>?_) (λh=>?_)
   ·have h:i<b:=by simp at h;omega
    refine aj ?_;refine WT.bA hT hvG Z Z Z Z Z Z Z Z Z zo (λbl1 hbl1=>?_);refine WT.cz hT 0 hvG hbl1 (aV zo) Z Z Z Z Z Z Z Z Z (λl1 hl1=>?_);refine aj ?_;refine WT.bA hT hvG Z Z Z Z Z Z Z Z Z zo (λbl2 hbl2=>?_);refine WT.cz hT 0 hvG hbl2 (aV zo) Z Z Z Z Z Z Z Z Z (λl2 hl2=>?_);refine WT.eB hg hgb Z Z Z Z Z Z Z (hcmp G (hF1.trans hG) l1 l2 _ _ hl1 hl2) (λv hvz=>?_);obtain⟨z,rfl,hz⟩:=hvz;refine aj ?_;refine AW.cond Z (λhc=>?_) (λhc=>?_)
    ·have hlt:lt u.2.d[i]! u.2.d[i-1]! = false:=SV.2 (λhh=>absurd (hz.2 hh) (by simpa using hc));refine aj ?_;refine AW.block ?_;refine aj ?_;refine⟨i+1,by omega,sM,ah.refl _,by omega,by omega,?_⟩;rw[<-j3]
     conv=>rhs;rw[Go.Sort.scanSorted]
     rw[By (by simp[h,hlt])]
    ·have hlt:=hz.1 (by simpa using hc);refine AW.exit ?_;have e:i=i2:=by rw[<-j3,Go.Sort.scanSorted,AT (by simp[hlt])]
     exact⟨(),bI.of_map (by rw[e];rfl),ah.refl _,by omega,by omega⟩
   ·have h:¬i<b:=by simp at h;omega
    refine aj ?_;refine AW.cond Z (λh=>(by cases h)) (λ_=>?_);refine AW.exit ?_;have e:i=i2:=by rw[<-j3,Go.Sort.scanSorted,AT (by simp[h])]
    exact⟨(),bI.of_map (by rw[e];rfl),ah.refl _,by omega,by omega⟩
  ·obtain⟨j1,j2⟩:=hi2';have hv2:=hv1.mono hF2;have hsz:m=u.2.d.size:=hv1.len;have hF2':=hF1.trans hF2;refine aj ?_;refine AW.cond Z (λh=>?_) (λh=>?_)
   ·have h:i2=b:=by simp at h;omega
    refine aj ?_;refine AW.ret ⟨_,[_],⟨_,_,rfl,rfl,rfl⟩,bY,_,rfl,?_,?_⟩
    ·rw[<-heq,By h];rfl
    ·rw[<-heq,By h];exact hv2
   ·have h:i2≠b:=by simp at h;omega
    rw[AT h] at heq;refine aj ?_;refine AW.cond Z (λh5=>?_) (λh5=>?_)
    ·have h5:b-a<50:=by simp at h5;omega
     refine aj ?_;refine AW.ret ⟨_,[_],⟨_,_,rfl,rfl,rfl⟩,bY,_,rfl,?_,?_⟩
     ·rw[<-heq,By h5];rfl
     ·rw[<-heq,By h5];exact hv2
    ·have h5:¬b-a<50:=by simp at h5;omega
     rw[AT h5] at heq;refine aj ?_;refine AW.draw (ps:=[(4,15)]) Z Z ?_;refine aj ?_;refine WT.bA hT hv2 Z Z Z Z Z Z Z Z Z zo (λbl3 hbl3=>?_);refine WT.cz hT 0 hv2 hbl3 (aV zo) Z Z Z Z Z Z Z Z Z (λl3 hl3=>?_);refine aj ?_;refine WT.bA hT hv2 Z Z Z Z Z Z Z Z Z zo (λbl4 hbl4=>?_);refine WT.cz hT 0 hv2 hbl4 (aV zo) Z Z Z Z Z Z Z Z Z (λl4 hl4=>?_);refine WT.bA hT hv2 Z Z Z Z Z Z Z Z Z zo (λbl5 hbl5=>?_);refine WT.qC (y:=u.2.d[i2-1]!) hT 0 hv2 hbl5 (gE (by simp;omega)) Z Z Z Z Z hl3 Z (λ_=>rfl) Z (λBl5 hBl5=>?_)
     refine WT.bA hT hBl5 Z Z Z Z Z Z Z Z Z zo (λbl6 hbl6=>?_);refine WT.qC (y:=u.2.d[i2]!) hT 0 hBl5 hbl6 (gE (by simp;omega)) Z Z Z Z Z hl4 Z (λ_=>rfl) Z (λBl6 hBl6=>?_);rw[<-dF] at hBl6;obtain⟨d1,hd1⟩:∃d1,Go.Sort.swp u.2.d i2 (i2-1)=d1:=⟨_,rfl⟩;rw[hd1] at heq hBl6;refine aj ?_;refine⟨oY,?_⟩;refine AW.jn (S:=VS cY) (λ_=>[]) (λs=>s.B::own) (λs G=>dM cw G a0 m c s.B s.d.toList/\s.d=Go.Sort.fixDown lt a i2 d1) ?_ (λs F3 hF3 hP3=>?_)
     ·refine aj ?_;refine AW.cond Z (λh2=>?_) (λh2=>?_)
      ·have h2:2<=i2-a:=by simp at h2;omega
       rw[Go.Sort.fixDown,By h2];refine aj ?_;refine AW.block ?_;refine AW.cm (S:=VS cY) (λs=>[(11,.int .i64 (s.i:Nat))]) (λs=>s.B::own) (λs G=>dM cw G a0 m c s.B s.d.toList/\s.i<m/\Go.Sort.shiftDown lt s.i s.d=Go.Sort.shiftDown lt (i2-1) d1) (λs=>s.i) ⟨i2-1,d1,Bl6⟩ sM oR ⟨hBl6,by dsimp only;omega,rfl⟩ ?_;intro w G hG hP4;obtain⟨hw,hwi,hwe⟩:=hP4;have hszw:m=w.d.size:=hw.len;refine aj ?_;refine AW.cond Z (λh3=>?_) (λh3=>?_)
       ·have h3:1<=w.i:=by simp at h3;omega
        have one:Go.Sort.shiftDown lt w.i w.d=if lt w.d[w.i]! w.d[w.i-1]! = true then Go.Sort.shiftDown lt (w.i-1) (Go.Sort.swp w.d w.i (w.i-1)) else w.d:=by
         cases hi:w.i with
         | zero=>omega
         | succ k=>
          rw[Go.Sort.shiftDown,Tz];cases lt w.d[k+1]! w.d[k]!<;>simp
        refine aj ?_;refine AW.block ?_;refine aj ?_;refine WT.bA hT hw Z Z Z Z Z Z Z Z Z zo (λbl7 hbl7=>?_);refine WT.cz hT 0 hw hbl7 (aV zo) Z Z Z Z Z Z Z Z Z (λl7 hl7=>?_);refine aj ?_;refine WT.bA hT hw Z Z Z Z Z Z Z Z Z zo (λbl8 hbl8=>?_);refine WT.cz hT 0 hw hbl8 (aV zo) Z Z Z Z Z Z Z Z Z (λl8 hl8=>?_);refine WT.eB hg hgb Z Z Z Z Z Z Z (hcmp G (hF2'.trans hG) l7 l8 _ _ hl7 hl8) (λv hvz=>?_);obtain⟨z,rfl,hz⟩:=hvz;refine aj ?_;refine AW.cond Z (λhc=>?_) (λhc=>?_)
        ·have hlt:lt w.d[w.i]! w.d[w.i-1]! = false:=SV.2 (λhh=>absurd (hz.2 hh) (by simpa using hc));refine AW.exit ?_;refine⟨⟨0,w.d,w.B⟩,sM,ah.refl _,hw,?_⟩;rw[<-hwe,one,AT (by rw[hlt];decide)]
        ·have hlt:=hz.1 (by simpa using hc);refine aj ?_;refine AW.draw (ps:=[(4,15)]) Z Z ?_;refine aj ?_;refine WT.bA hT hw Z Z Z Z Z Z Z Z Z zo (λbl9 hbl9=>?_);refine WT.cz hT 0 hw hbl9 (aV zo) Z Z Z Z Z Z Z Z Z (λl9 hl9=>?_);refine aj ?_;refine WT.bA hT hw Z Z Z Z Z Z Z Z Z zo (λbl10 hbl10=>?_);refine WT.cz hT 0 hw hbl10 (aV zo) Z Z Z Z Z Z Z Z Z (λl10 hl10=>?_);refine WT.bA hT hw Z Z Z Z Z Z Z Z Z zo (λbl11 hbl11=>?_);refine WT.qC (y:=w.d[w.i-1]!) hT 0 hw hbl11 (gE (by simp;omega)) Z Z Z Z Z hl9 Z (λ_=>rfl) Z (λBl11 hBl11=>?_)
         refine WT.bA hT hBl11 Z Z Z Z Z Z Z Z Z zo (λbl12 hbl12=>?_);refine WT.qC (y:=w.d[w.i]!) hT 0 hBl11 hbl12 (gE (by simp;omega)) Z Z Z Z Z hl10 Z (λ_=>rfl) Z (λBl12 hBl12=>?_);rw[<-dF] at hBl12;refine aj ?_;refine⟨oY,?_⟩;refine aj ?_;refine⟨⟨w.i-1,Go.Sort.swp w.d w.i (w.i-1),Bl12⟩,by dsimp only;omega,sM,ah.refl _,hBl12,by dsimp only;omega,?_⟩;rw[<-hwe,one,By hlt]
       ·have h3:w.i=0:=by simp at h3;omega
        refine AW.exit ?_;refine⟨⟨0,w.d,w.B⟩,sM,ah.refl _,hw,?_⟩;rw[<-hwe,h3];rfl
      ·have h2:¬2<=i2-a:=by simp at h2;omega
       rw[Go.Sort.fixDown,AT h2];refine AW.skip ?_;exact⟨⟨0,d1,Bl6⟩,sM,ah.refl _,hBl6,rfl⟩
     ·obtain⟨hs,hsd⟩:=hP3;have hszs:m=s.d.size:=hs.len;have hF3':=hF2'.trans hF3;rw[<-hsd] at heq;refine aj ?_;refine AW.cond Z (λh2=>?_) (λh2=>?_)
      ·have h2:2<=b-i2:=by simp at h2;omega
       rw[Go.Sort.fixUp,By h2] at heq;refine aj ?_;refine AW.block ?_;refine AW.cm (S:=VS cY) (λs=>[(12,.int .i64 (s.i:Nat))]) (λs=>s.B::own) (λw G=>dM cw G a0 m c w.B w.d.toList/\i2+1<=w.i/\Go.Sort.shiftUp lt b w.i w.d=Go.Sort.shiftUp lt b (i2+1) s.d) (λs=>b-s.i) ⟨i2+1,s.d,s.B⟩ sM oR ⟨hs,AS _,rfl⟩ ?_;intro w G hG hP4;obtain⟨hw,hwi,hwe⟩:=hP4;have hszw:m=w.d.size:=hw.len;refine aj ?_;refine AW.cond Z (λh3=>?_) (λh3=>?_)
       ·have h3:w.i<b:=by simp at h3;omega
        have one:Go.Sort.shiftUp lt b w.i w.d=if lt w.d[w.i]! w.d[w.i-1]! = true then Go.Sort.shiftUp lt b (w.i+1) (Go.Sort.swp w.d w.i (w.i-1)) else w.d:=by
         conv=>lhs;rw[Go.Sort.shiftUp]
         rw[By h3];cases lt w.d[w.i]! w.d[w.i-1]!<;>simp
        refine aj ?_;refine AW.block ?_;refine aj ?_;refine WT.bA hT hw Z Z Z Z Z Z Z Z Z zo (λbl7 hbl7=>?_);refine WT.cz hT 0 hw hbl7 (aV zo) Z Z Z Z Z Z Z Z Z (λl7 hl7=>?_);refine aj ?_;refine WT.bA hT hw Z Z Z Z Z Z Z Z Z zo (λbl8 hbl8=>?_);refine WT.cz hT 0 hw hbl8 (aV zo) Z Z Z Z Z Z Z Z Z (λl8 hl8=>?_);refine WT.eB hg hgb Z Z Z Z Z Z Z (hcmp G (hF3'.trans hG) l7 l8 _ _ hl7 hl8) (λv hvz=>?_);obtain⟨z,rfl,hz⟩:=hvz;refine aj ?_;refine AW.cond Z (λhc=>?_) (λhc=>?_)
        ·have hlt:lt w.d[w.i]! w.d[w.i-1]! = false:=SV.2 (λhh=>absurd (hz.2 hh) (by simpa using hc));refine AW.exit ?_;refine aj ?_;refine⟨(u.1+1,⟨i2,w.d,w.B⟩),by dsimp only;omega,sM,ah.refl _,hw,by dsimp only;omega,by dsimp only;omega,j2,?_⟩;rw[<-heq,<-hwe,one,AT (by rw[hlt];decide)]
        ·have hlt:=hz.1 (by simpa using hc);refine aj ?_;refine AW.draw (ps:=[(4,15)]) Z Z ?_;refine aj ?_;refine WT.bA hT hw Z Z Z Z Z Z Z Z Z zo (λbl9 hbl9=>?_);refine WT.cz hT 0 hw hbl9 (aV zo) Z Z Z Z Z Z Z Z Z (λl9 hl9=>?_);refine aj ?_;refine WT.bA hT hw Z Z Z Z Z Z Z Z Z zo (λbl10 hbl10=>?_);refine WT.cz hT 0 hw hbl10 (aV zo) Z Z Z Z Z Z Z Z Z (λl10 hl10=>?_);refine WT.bA hT hw Z Z Z Z Z Z Z Z Z zo (λbl11 hbl11=>?_);refine WT.qC (y:=w.d[w.i-1]!) hT 0 hw hbl11 (gE (by simp;omega)) Z Z Z Z Z hl9 Z (λ_=>rfl) Z (λBl11 hBl11=>?_)
         refine WT.bA hT hBl11 Z Z Z Z Z Z Z Z Z zo (λbl12 hbl12=>?_);refine WT.qC (y:=w.d[w.i]!) hT 0 hBl11 hbl12 (gE (by simp;omega)) Z Z Z Z Z hl10 Z (λ_=>rfl) Z (λBl12 hBl12=>?_);rw[<-dF] at hBl12;refine aj ?_;refine⟨oY,?_⟩;refine aj ?_;refine⟨⟨w.i+1,Go.Sort.swp w.d w.i (w.i-1),Bl12⟩,by dsimp only;omega,sM,ah.refl _,hBl12,by dsimp only;omega,?_⟩;rw[<-hwe,one,By hlt]
       ·have h3:¬w.i<b:=by simp at h3;omega
        refine AW.exit ?_;refine aj ?_;refine⟨(u.1+1,⟨i2,w.d,w.B⟩),by dsimp only;omega,sM,ah.refl _,hw,by dsimp only;omega,by dsimp only;omega,j2,?_⟩;rw[<-heq,<-hwe,Go.Sort.shiftUp,AT h3]
      ·have h2:¬2<=b-i2:=by simp at h2;omega
       rw[Go.Sort.fixUp,AT h2] at heq;refine aj ?_;exact⟨(u.1+1,⟨i2,s.d,s.B⟩),by dsimp only;omega,sM,ah.refl _,hs,by dsimp only;omega,by dsimp only;omega,j2,heq⟩
 ·have h:u.1=5:=by simp at h;omega
  refine AW.exit ?_;refine aj ?_;rw[h] at heq;refine AW.ret ⟨_,[_],⟨_,_,rfl,rfl,rfl⟩,bY,_,rfl,?_,?_⟩
  ·rw[<-heq];rfl
  ·rw[<-heq];exact hv1):p:=h
namespace Nky
abbrev zO:=Tryz.func229
end Nky
open Nky in
theorem CN(F:ar){lt:Key->Key->Bool}{g:Nat}{first capt:List Value}(hc:dV dB lt F g first capt){a0:Option Addr}{m c:Nat}{B:List (Nat×aE)}{d:Array Key}(hv:dM dB F a0 m c B d.toList)(a b:Nat)(hab:a<b)(hb:b<=m)(hm:m<=1000000) :
  Abs.Spec CC 229 [.slice a0 m c,.int .i64 a,.int .i64 b,.func (.func g) ⟨first⟩ ⟨capt⟩] F [B] λF' v o=>∃B',o=[B']/\v=.bool (Go.Sort.partialInsertionSort lt d a b).2/\dM dB F' a0 m c B' (Go.Sort.partialInsertionSort lt d a b).1.toList:=mX
theorem lJ{p:Prop} (h:p:=by
 obtain⟨l,hl⟩:∃l,b-a=l:=⟨_,rfl⟩;obtain⟨e,he⟩:∃e,l / 4=e:=⟨_,rfl⟩;obtain⟨p2,hp2⟩:∃p,2 ^ Go.Sort.bitsLen l=p:=⟨_,rfl⟩;have h1p:=Go.Sort.two_pow_bitsLen_le (n:=l) zo;have h2p:=Go.Sort.lt_two_pow_bitsLen l;rw[hp2] at h1p h2p;have hbr:Go.Sort.breakPatterns d a b=(Kr a l p2 (a+e*2-1) (UInt64.ofNat l,d) 3).2:=by
  unfold Go.Sort.breakPatterns;simp only[hl];rw[By zo,he,Nat.one_shiftLeft,hp2];rfl
 refine Abs.Spec.fn (n:=67) AF rfl rfl λown=>?_;refine aj ?_;rw[hl];refine AW.cond Z (λ_=>?_) (λh=>(by simp at h;omega));refine aj ?_;refine WT.conv hT (k2:=.u64) Z Z Z Z Z Z Z Z (iq zo) ?_
 refine WT.aK hT Z Z Z Z Z Z (λi9 hi9=>?_);refine aj ?_;refine WT.a6 Tryz.func237 Z Z Z Z Z Z (He _ l zo) (λv hv'=>?_);rw[hp2] at hv';subst hv';refine aj ?_;refine WT.Es 4 Z Z Z Z Z Z (by decide) zo ?_;rw[he];refine WT.mulL 2 Z Z Z Z Z Z zo ?_;refine aj ?_;refine AW.block ?_
 refine AW.cm (S:=VS cY) (λs=>[(11,.int .i64 ((a+e*2-1+s.i:Nat):Int))]) (λs=>[(i9,.cells false [.int .u64 ((Kr a l p2 (a+e*2-1) (UInt64.ofNat l,d) s.i).1.toNat:Nat)])]::s.B::own) (λs G=>dM cw G a0 m c s.B s.d.toList/\s.i<=3/\s.d=(Kr a l p2 (a+e*2-1) (UInt64.ofNat l,d) s.i).2) (λs=>3-s.i) ⟨0,d,B⟩
  sM (ah.flat (List.Perm.of_eq ?_)) ⟨hv,R6 _,rfl⟩ ?_
 ·rw[show (Kr a l p2 (a+e*2-1) (UInt64.ofNat l,d) 0).1.toNat=l from by
   show (UInt64.ofNat l).toNat=l;rw[UInt64.toNat_ofNat']
   exact Nat.mod_eq_of_lt (by
    have : 2 ^ 64 = 18446744073709551616 := rfl
    omega)]
  rfl
 intro u F2 hF2 hP2;obtain⟨hv2,hi,heq⟩:=hP2;have hsz:m=u.d.size:=hv2.len;have hr64:=(Kr a l p2 (a+e*2-1) (UInt64.ofNat l,d) u.i).1.toNat_lt;rw[show (2:Nat) ^ 64=18446744073709551616 from rfl] at hr64;obtain⟨r,hr⟩:∃r,(Kr a l p2 (a+e*2-1) (UInt64.ofNat l,d) u.i).1.toNat=r:=⟨_,rfl⟩;have hnext:(Kr a l p2 (a+e*2-1) (UInt64.ofNat l,d) (u.i+1)).1.toNat=Go.Sort.xorNextN r:=by
  rw[<-hr,<-Go.Sort.xorNext_toNat];rfl
 rw[hr] at hr64;rw[hr];have hx64:=Go.Sort.xorNextN_lt r hr64;obtain⟨o0,ho0⟩:∃o0,Go.Sort.xorNextN r &&& (p2-1)=o0:=⟨_,rfl⟩;have ho1:o0<=p2-1:=by rw[<-ho0];exact Nat.and_le_right
 have hswap:(Kr a l p2 (a+e*2-1) (UInt64.ofNat l,d) (u.i+1)).2=Go.Sort.swp u.d (a+e*2-1+u.i) (a+(if o0≥l then o0-l else o0)):=by
  show (Go.Sort.breakStep a l p2 (Kr a l p2 (a+e*2-1) (UInt64.ofNat l,d) u.i) (a+e*2-1+u.i)).2=_;unfold Go.Sort.breakStep;simp only[Go.Sort.xorNext_toNat,hr,ho0,<-heq]
 have hel:e*4<=l:=by rw[<-he];exact Nat.div_mul_le_self _ _
 have he3:3<=e:=by rw[<-he];omega
 refine aj ?_;refine WT.Es 4 Z Z Z Z Z Z (by decide) zo ?_;rw[he];refine WT.mulL 2 Z Z Z Z Z Z zo ?_;refine aj ?_;refine AW.cond Z (λh=>?_) (λh=>?_)
 ·have h:u.i<3:=by simp at h;omega
  refine aj ?_;refine AW.block ?_;refine aj ?_;refine WT.cW 0 Tryz.func238 Z Z Z Z Z Z Z (λ_=>rfl) (Hl _ i9 r hr64) (λF3 v B3 hF3 hv3=>?_);obtain⟨rfl,rfl⟩:=hv3;have hv3:=hv2.mono hF3;refine aj ?_;refine WT.Em Z Z Z Z Z Z (by decide) (Oa (x:=p2) (y:=1) zo zo) ?_;refine WT.Em Z Z Z Z Z Z (by decide) (OJ hx64 zo) ?_;rw[ho0];refine WT.conv hT (k2:=.i64) Z Z Z Z Z Z Z Z (wrap64 zo) ?_
  refine aj ?_;refine AW.Fs (S:=Unit) (λ_=>[(12,.int .i64 ((if o0≥l then o0-l else o0:Nat):Int))]) (λ_=>[(i9,.cells false [.int .u64 (Go.Sort.xorNextN r:Nat)])]::u.B::own) (λ_ _=>True) ?_ (λ_ F4 hF4 _=>?_)
  ·refine AW.cond Z (λh=>?_) (λh=>?_)
   ·have h:l<=o0:=by simp at h;omega
    refine aj ?_;refine⟨(),bI.of_map (by rw[By h];rfl),ah.refl _,trivial⟩
   ·have h:¬l<=o0:=by simp at h;omega
    refine AW.skip ?_;refine⟨(),bI.of_map (by rw[AT h];rfl),ah.refl _,trivial⟩
  ·obtain⟨o1,ho2⟩:∃o1,(if o0≥l then o0-l else o0)=o1:=⟨_,rfl⟩;have ho3:o1<l:=by rw[<-ho2];split<;>omega
   rw[ho2] at hswap ⊢;have hv4:=hv3.mono hF4;refine AW.draw (ps:=[(5,17)]) Z Z ?_;refine aj ?_;refine WT.bA hT hv4 Z Z Z Z Z Z Z Z Z zo (λbl3 hbl3=>?_);refine WT.cz hT 1 hv4 hbl3 (aV zo) Z Z Z Z Z Z Z Z Z (λl3 hl3=>?_);refine aj ?_;refine WT.bA hT hv4 Z Z Z Z Z Z Z Z Z zo (λbl4 hbl4=>?_);refine WT.cz hT 1 hv4 hbl4 (aV zo) Z Z Z Z Z Z Z Z Z (λl4 hl4=>?_);refine WT.bA hT hv4 Z Z Z Z Z Z Z Z Z zo (λbl5 hbl5=>?_);refine WT.qC (y:=u.d[a+o1]!) hT 1 hv4 hbl5 (gE (by simp;omega)) Z Z Z Z Z hl3 Z (λ_=>rfl) Z (λBl5 hBl5=>?_)
   refine WT.bA hT hBl5 Z Z Z Z Z Z Z Z Z zo (λbl6 hbl6=>?_);refine WT.qC (y:=u.d[a+e*2-1+u.i]!) hT 1 hBl5 hbl6 (gE (by simp;omega)) Z Z Z Z Z hl4 Z (λ_=>rfl) Z (λBl6 hBl6=>?_);rw[<-dF] at hBl6;refine aj ?_;refine⟨oY,?_⟩;refine aj ?_;refine⟨⟨u.i+1,_,Bl6⟩,by dsimp only;omega,sM,ah.flat (List.Perm.of_eq (by rw[hnext])),hBl6,by dsimp only;omega,hswap.symm⟩
 ·have h:u.i=3:=by simp at h;omega
  refine AW.exit ?_;refine⟨_,[_],rfl,bY,_,rfl,?_⟩;rw[hbr,<-h,<-heq];exact hv2):p:=h
namespace Nky
abbrev AF:=Tryz.func226
end Nky
open Nky in
theorem A0(F:ar){cv:Value}{a0:Option Addr}{m c:Nat}{B:List (Nat×aE)}{d:Array Key}(hv:dM dB F a0 m c B d.toList)(a b:Nat)(hab:a+13<=b)(hb:b<=m)(hm:m<=1000000) :
  Abs.Spec CC 226 [.slice a0 m c,.int .i64 a,.int .i64 b,cv] F [B] λF' v o=>∃B',o=[B']/\dM dB F' a0 m c B' (Go.Sort.breakPatterns d a b).toList:=lJ
theorem m6{p:Prop} (h:p:=by
  obtain⟨⟨fn,hg,hgb⟩,hcmp⟩:=id hc;refine Abs.Spec.fn (n:=148) sv rfl rfl λown=>?_;refine aj ?_;refine AW.block ?_;refine AW.cm (S:=PS cY) (λs=>[(1,.int .i64 (s.a:Nat)),(2,.int .i64 (s.b:Nat)),(3,.int .i64 (s.lim:Nat)),(10,.bool s.wb),(11,.bool s.wp)]) (λs=>s.B::own)
   (λs G=>dM cw G a0 m c s.B s.d.toList/\s.a<=s.b/\s.b<=m/\s.b-s.a<=b-a/\s.lim<=1000000/\Go.Sort.pdq lt s.d s.a s.b s.lim s.wb s.wp=Go.Sort.pdq lt d a b limit true true) (λs=>s.b-s.a) ⟨a,b,limit,true,true,d,B⟩
   sM oR ⟨hv,hab,hb,AS _,hlim,rfl⟩ ?_
  intro s F1 hF1 hP;obtain⟨hv1,hab1,hb1,hle1,hlim1,heq⟩:=hP;have hc1:=hc.mono hF1;refine AW.block ?_;refine aj ?_;refine AW.cond Z (λh=>?_) (λh=>?_)
  ·have h:s.b-s.a<=12:=by simp at h;omega
   refine aj ?_;refine WT.cW 0 AJ Z Z Z Z Z Z Z (λ_=>rfl) (Dk _ hc1 hv1 s.a s.b zo hb1 hm) (λF2 v B2 hF2 hv2=>?_);refine aj ?_;refine AW.ret ⟨_,[_],rfl,bY,_,rfl,?_⟩;rw[<-heq,Go.Sort.pdq_small h];exact hv2
  ·have h:¬s.b-s.a<=12:=by simp at h;omega
   refine aj ?_;refine AW.cond Z (λh0=>?_) (λh0=>?_)
   ·have h0:s.lim=0:=by simp at h0;omega
    refine aj ?_;refine WT.cW 0 AY Z Z Z Z Z Z Z (λ_=>rfl) (BN _ hc1 hv1 s.a s.b zo hb1 hm) (λF2 v B2 hF2 hv2=>?_);refine aj ?_;refine AW.ret ⟨_,[_],rfl,bY,_,rfl,?_⟩;rw[<-heq,Go.Sort.pdq_heap h h0];exact hv2
   ·have h0:¬s.lim=0:=by simp at h0;omega
    obtain⟨R,hR⟩:∃R,Go.Sort.rd lt s.d s.a s.b s.lim s.wb s.wp=R:=⟨_,rfl⟩;refine AW.skip ?_;refine AW.jn (S:=VS cY) (λt=>[(3,.int .i64 (t.i:Nat))]) (λt=>t.B::own) (λt G=>dM cw G a0 m c t.B t.d.toList/\t.i=R.lim/\t.d=R.d1) ?_ (λt F2 hF2 hP2=>?_)
    ·refine aj ?_;cases hwb:s.wb with
     | true=>
      refine AW.cond Z (λh=>(by cases h)) (λ_=>?_);refine AW.skip ?_;exact⟨⟨s.lim,s.d,s.B⟩,sM,ah.refl _,hv1,by rw[<-hR,hwb];rfl,by rw[<-hR,hwb];rfl⟩
     | false=>
      refine AW.cond Z (λ_=>?_) (λh=>(by cases h));refine aj ?_;refine WT.cW 0 AF Z Z Z Z Z Z Z (λ_=>rfl) (Ct _ hv1 s.a s.b zo hb1 hm) (λF2 v B2 hF2 hv2=>?_);refine aj ?_;exact⟨⟨s.lim-1,_,B2⟩,sM,ah.refl _,hv2,by rw[<-hR,hwb];rfl,by rw[<-hR,hwb];rfl⟩
    ·obtain⟨hv2,hlm,hd1⟩:=hP2;have hc2:=hc1.mono hF2;have hsz2:m=t.d.size:=hv2.len;have hcc:Go.Sort.choosePivot lt t.d s.a s.b=R.c:=by rw[hd1,<-hR];rfl
     have hcr:=Go.Sort.choosePivot_holds lt t.d s.a s.b zo;rw[hcc] at hcr;have hlim2:R.lim<=s.lim:=by rw[<-hR];exact Go.Sort.rd_lim_le
     refine aj ?_;refine WT.jt 0 Bc Z Z Z Z Z Z Z (λG hG hBG=>C3 G (hc2.mono hG) (hv2.arr hG hBG) s.a s.b zo hb1 hm) (λv hv'=>?_);rw[hcc] at hv';subst hv'
     (iterate 5 (refine WT.JQ hT Z Z Z Z Z ?_))
     refine WT.nil ?_;refine AW.jn (S:=Nat×Go.Sort.Hint×VS cY) (λu=>[(13,.int .i64 (u.1:Nat)),(14,.int .i64 (Go.Sort.hintCode u.2.1))]) (λu=>u.2.2.B::own) (λu G=>dM cw G a0 m c u.2.2.B u.2.2.d.toList/\u.1=R.pivot/\u.2.1=R.hint/\u.2.2.d=R.d2/\s.a<=u.1/\u.1<s.b) ?_ (λu F3 hF3 hP3=>?_)
     ·refine aj ?_;refine AW.cond Z (λhh=>?_) (λhh=>?_)
      ·have hdec:R.c.2=.decreasing:=by
        cases e:R.c.2 with
        | decreasing=>rfl
        | increasing=>rw[e] at hh;cases hh
        | unknown=>rw[e] at hh;cases hh
       obtain⟨q1,q2,q3⟩:=Go.Sort.rd_dec (lt:=lt) (d:=s.d) (a:=s.a) (b:=s.b) (limit:=s.lim) (wb:=s.wb) (wp:=s.wp) (by rw[hR];exact hdec);rw[hR] at q1 q2 q3;refine aj ?_;refine WT.cW 0 An Z Z Z Z Z Z Z (λ_=>rfl) (Cy _ hv2 s.a s.b zo hb1 hm) (λF3 v B3 hF3 hv3=>?_);refine aj ?_;refine⟨(s.b-1-(R.c.1-s.a),.increasing,⟨0,_,B3⟩),sM,ah.refl _,hv3,q2.symm,q3.symm,(by rw[q1,hd1];rfl),by dsimp only;omega,by dsimp only;omega⟩
      ·have hdec:R.c.2≠.decreasing:=by intro e;rw[e] at hh;cases hh
       obtain⟨q1,q2,q3⟩:=Go.Sort.rd_not (lt:=lt) (d:=s.d) (a:=s.a) (b:=s.b) (limit:=s.lim) (wb:=s.wb) (wp:=s.wp) (by rw[hR];exact hdec);rw[hR] at q1 q2 q3;refine AW.skip ?_;exact⟨(R.c.1,R.c.2,⟨0,t.d,t.B⟩),sM,ah.refl _,hv2,q2.symm,q3.symm,by rw[q1,hd1],hcr.1,hcr.2⟩
     ·obtain⟨hv3,hpv,hhint,hd2,hpa,hpb⟩:=hP3;have hc3:=hc2.mono hF3;have hno:(s.wb&&s.wp&&decide (R.hint=.increasing))=false->R.pi=(R.d2,false):=λh=>by
       have:=Go.Sort.rd_pi_no (lt:=lt) (d:=s.d) (a:=s.a) (b:=s.b) (limit:=s.lim) (wb:=s.wb) (wp:=s.wp) (by rw[hR];exact h);rw[hR] at this;exact this
      have hyes:(s.wb&&s.wp&&decide (R.hint=.increasing))=true->R.pi=Go.Sort.partialInsertionSort lt R.d2 s.a s.b:=λh=>by
       have:=Go.Sort.rd_pi_yes (lt:=lt) (d:=s.d) (a:=s.a) (b:=s.b) (limit:=s.lim) (wb:=s.wb) (wp:=s.wp) (by rw[hR];exact h);rw[hR] at this;exact this
      refine AW.jn (S:=VS cY) (λ_=>[]) (λw=>w.B::own) (λw G=>dM cw G a0 m c w.B w.d.toList/\R.pi=(w.d,false)) ?_ (λw F4 hF4 hP4=>?_)
      ·refine AW.split 10 Z (λhwb=>?_) (λhwb=>?_)
       ·refine AW.split 11 Z (λhwp=>?_) (λhwp=>?_)
        ·refine aj ?_;refine AW.cond Z (λhh=>?_) (λhh=>?_)
         ·have hinc:R.hint=.increasing:=by
           rw[<-hhint];cases e:u.2.1 with
           | increasing=>rfl
           | decreasing=>rw[e] at hh;cases hh
           | unknown=>rw[e] at hh;cases hh
          have hpi:=hyes (by rw[hwb,hwp,hinc];rfl);refine aj ?_;refine WT.cW 0 zO Z Z Z Z Z Z Z (λ_=>rfl) (BD _ hc3 hv3 s.a s.b zo hb1 hm) (λF4 v B4 hF4 hv4=>?_);obtain⟨rfl,hv4⟩:=hv4;rw[hd2,<-hpi] at hv4 ⊢;refine aj ?_;refine AW.cond Z (λhp2=>?_) (λhp2=>?_)
          ·have hp2:R.pi.2=true:=hp2;refine AW.ret ⟨_,[_],rfl,bY,_,rfl,?_⟩;rw[<-heq,Go.Sort.pdq_done h h0 (by rw[hR];exact hp2),hR];exact hv4
          ·have hp2:R.pi.2=false:=hp2;refine AW.skip ?_;exact⟨⟨0,R.pi.1,B4⟩,bI.of_map (by rw[hwb,hwp];rfl),ah.refl _,hv4,by rw[<-hp2]⟩
         ·have hinc:R.hint≠.increasing:=by intro e;rw[<-hhint] at e;rw[e] at hh;cases hh
          refine AW.skip ?_;exact⟨⟨0,u.2.2.d,u.2.2.B⟩,bI.of_map (by rw[hwb,hwp];rfl),ah.refl _,hv3,by rw[hno (by simp[hinc]),hd2]⟩
        ·refine aj ?_;refine AW.cond Z (λhh=>(by cases hh)) (λhh=>?_);refine AW.skip ?_;exact⟨⟨0,u.2.2.d,u.2.2.B⟩,bI.of_map (by rw[hwb,hwp];rfl),ah.refl _,hv3,by rw[hno (by simp[hwp]),hd2]⟩
       ·refine aj ?_;refine AW.cond Z (λhh=>(by cases hh)) (λhh=>?_);refine AW.skip ?_;exact⟨⟨0,u.2.2.d,u.2.2.B⟩,bI.of_map (by rw[hwb];rfl),ah.refl _,hv3,by rw[hno (by simp[hwb]),hd2]⟩
      ·obtain⟨hv4,hpi⟩:=hP4;have hc4:=hc3.mono hF4;have hsz4:m=w.d.size:=hv4.len;have hp2:(Go.Sort.rd lt s.d s.a s.b s.lim s.wb s.wp).pi.2=false:=by rw[hR,hpi]
       have hcm:=hc4.2;refine AW.jn (S:=Unit) (λ_=>[]) (λ_=>w.B::own) (λ_ _=>(decide (s.a > 0)&&!lt w.d[s.a-1]! w.d[u.1]!)=false) ?_ (λ_ F5 hF5 hx=>?_)
       ·refine aj ?_;refine WT.split 83 Z (λha0=>?_) (λha0=>?_)
        ·have ha0:0<s.a:=by simp at ha0;omega
         refine aj ?_;refine WT.bA hT hv4 Z Z Z Z Z Z Z Z Z zo (λbl1 hbl1=>?_);refine WT.cz hT 0 hv4 hbl1 (aV zo) Z Z Z Z Z Z Z Z Z (λl1 hl1=>?_);refine aj ?_;refine WT.bA hT hv4 Z Z Z Z Z Z Z Z Z zo (λbl2 hbl2=>?_);refine WT.cz hT 0 hv4 hbl2 (aV zo) Z Z Z Z Z Z Z Z Z (λl2 hl2=>?_);refine WT.eB hg hgb Z Z Z Z Z Z Z (hcm F4 (ar.le.refl F4) l1 l2 _ _ hl1 hl2) (λv hvz=>?_);obtain⟨z,rfl,hz⟩:=hvz;refine aj ?_;refine AW.cond Z (λhq=>?_) (λhq=>?_)
         ·have hlt:lt w.d[s.a-1]! w.d[u.1]! = false:=SV.2 (λhh=>absurd (hz.2 hh) (by simpa using hq));have hrange:=A3 lt w.d (a:=s.a) (b:=s.b) (p:=u.1) hpa hpb zo;have e:=Go.Sort.pdq_eq (lt:=lt) h h0 hp2 (by rw[hR,hpi,<-hpv];simp[ha0,hlt]) (by rw[hR,hpi,<-hpv];exact hrange);rw[hR,hpi,<-hpv,<-hlm] at e;obtain⟨pe,hpe⟩:∃pe,Go.Sort.partitionEqual lt w.d s.a s.b u.1=pe:=⟨_,rfl⟩;rw[hpe] at hrange;refine aj ?_;refine WT.cW 0 zV Z Z Z Z Z Z Z (λ_=>rfl) (Dj _ hc4 hv4 s.a s.b u.1 hpa hpb hb1 hm) (λF5 v B5 hF5 hv5=>?_);obtain⟨rfl,hv5⟩:=hv5;rw[hpe] at hv5 ⊢
          refine aj ?_;refine AW.exit ?_;refine⟨⟨pe.1,s.b,t.i,s.wb,s.wp,pe.2,B5⟩,by dsimp only;omega,sM,ah.refl _,hv5,hrange.2,hb1,by dsimp only;omega,by dsimp only;omega,?_⟩;rw[<-heq,e,hpe]
         ·have hlt:=hz.1 (by simpa using hq);refine AW.skip ?_;exact⟨(),sM,ah.refl _,by rw[hlt];simp⟩
        ·have ha0:¬0<s.a:=by simp at ha0;omega
         refine aj ?_;refine AW.cond Z (λhq=>(by cases hq)) (λhq=>?_);refine AW.skip ?_;exact⟨(),sM,ah.refl _,by simp[ha0]⟩
       ·have hv5:=hv4.mono hF5;have hc5:=hc4.mono hF5;have hrange:=DH lt w.d (a:=s.a) (b:=s.b) (p:=u.1) hpa hpb zo;have hx':(decide (s.a > 0)&&!lt (Go.Sort.rd lt s.d s.a s.b s.lim s.wb s.wp).pi.1[s.a-1]! (Go.Sort.rd lt s.d s.a s.b s.lim s.wb s.wp).pi.1[(Go.Sort.rd lt s.d s.a s.b s.lim s.wb s.wp).pivot]!)=false:=by rw[hR,hpi,<-hpv];exact hx
        have hr':s.a<=(Go.Sort.partition lt (Go.Sort.rd lt s.d s.a s.b s.lim s.wb s.wp).pi.1 s.a s.b (Go.Sort.rd lt s.d s.a s.b s.lim s.wb s.wp).pivot).1/\(Go.Sort.partition lt (Go.Sort.rd lt s.d s.a s.b s.lim s.wb s.wp).pi.1 s.a s.b (Go.Sort.rd lt s.d s.a s.b s.lim s.wb s.wp).pivot).1<s.b:=by rw[hR,hpi,<-hpv];exact hrange
        have eL:=Go.Sort.pdq_left (lt:=lt) h h0 hp2 hx' hr';have eR:=Go.Sort.pdq_right (lt:=lt) h h0 hp2 hx' hr';rw[hR,hpi,<-hpv,<-hlm] at eL eR;obtain⟨pp,hpp⟩:∃pp,Go.Sort.partition lt w.d s.a s.b u.1=pp:=⟨_,rfl⟩;simp only[hpp] at hrange eL eR;refine aj ?_;refine WT.cW 0 xF Z Z Z Z Z Z Z (λ_=>rfl) (BB _ hc5 hv5 s.a s.b u.1 hpa hpb hb1 hm) (λF6 v B6 hF6 hv6=>?_);obtain⟨rfl,hv6⟩:=hv6;rw[hpp] at hv6 ⊢;have hc6:=hc5.mono hF6;refine aj ?_;refine WT.Es 8 Z Z Z Z Z Z (by decide) zo ?_;refine aj ?_;refine AW.cond Z (λhl=>?_) (λhl=>?_)
        ·have hl:pp.1-s.a<s.b-pp.1:=by simp at hl;omega
         refine aj ?_;refine WT.jB (v':=.bool (decide (pp.1-s.a≥(s.b-s.a) / 8))) 10 Z (by congr 1;rw[decide_eq_decide];omega) ?_;refine WT.cW 0 sv Z Z Z Z Z Z Z (λ_=>rfl) (zzrec _ hc6 hv6 s.a pp.1 t.i zo hrange.1 zo hm zo) (λF7 v B7 hF7 hv7=>?_);refine aj ?_;refine⟨⟨pp.1+1,s.b,t.i,decide (pp.1-s.a≥(s.b-s.a) / 8),pp.2.1,_,B7⟩,by dsimp only;omega,sM,ah.refl _,hv7,by dsimp only;omega,hb1,by dsimp only;omega,by dsimp only;omega,?_⟩;rw[<-heq,eL hl]
        ·have hl:¬pp.1-s.a<s.b-pp.1:=by simp at hl;omega
         refine aj ?_;refine WT.jB (v':=.bool (decide (s.b-pp.1≥(s.b-s.a) / 8))) 10 Z (by congr 1;rw[decide_eq_decide];omega) ?_;refine WT.cW 0 sv Z Z Z Z Z Z Z (λ_=>rfl) (zzrec _ hc6 hv6 (pp.1+1) s.b t.i zo zo hb1 hm zo) (λF7 v B7 hF7 hv7=>?_);refine aj ?_;refine⟨⟨s.a,pp.1,t.i,decide (s.b-pp.1≥(s.b-s.a) / 8),pp.2.1,_,B7⟩,by dsimp only;omega,sM,ah.refl _,hv7,by dsimp only;omega,by dsimp only;omega,by dsimp only;omega,by dsimp only;omega,?_⟩;rw[<-heq,eR hl]):p:=h
namespace Nky
abbrev sv:=Tryz.func202
abbrev Ct:=@A0
abbrev BN:=@C7
abbrev Dk:=@EP
abbrev BD:=@CN
abbrev Dj:=@xQ
abbrev BB:=@Cr
abbrev C3:=@A7
abbrev Cy:=@Dv
end Nky
open Nky in
theorem uy{lt:Key->Key->Bool}{g:Nat}{first capt:List Value}:∀(N:Nat) (F:ar) (hc:dV dB lt F g first capt) {a0:Option Addr} {m c:Nat} {B:List (Nat×aE)} {d:Array Key} (hv:dM dB F a0 m c B d.toList) (a b limit:Nat) (hN:b-a<N) (hab:a<=b) (hb:b<=m) (hm:m<=1000000) (hlim:limit<=1000000),
  Abs.Spec CC 202 [.slice a0 m c,.int .i64 a,.int .i64 b,.int .i64 limit,.func (.func g) ⟨first⟩ ⟨capt⟩] F [B] λF' v o=>∃B',o=[B']/\dM dB F' a0 m c B' (Go.Sort.pdq lt d a b limit true true).toList
 | 0,_,_,_,_,_,_,_,_,_,_,_,h,_,_,_,_=>absurd h (Tl _)
 | N+1,F,hc,a0,m,c,B,d,hv,a,b,limit,hN,hab,hb,hm,hlim=>by have zzrec:=@uy lt g first capt N;exact m6
theorem mW{p:Prop} (h:p:=by
 have hl:=hv.len
 have hb : Go.Sort.bitsLen m <= 20 := (Go.Sort.bitsLen_le_iff _ _).2 (by
  have : 2 ^ 20 = 1048576 := rfl
  omega)
 refine Abs.Spec.fn (n:=14) FI rfl rfl λown=>?_;refine aj ?_;refine WT.conv hT (k2:=.u64) Z Z Z Z Z Z Z Z (iq zo) ?_
 refine WT.a6 Tryz.func174 Z Z Z Z Z Z (sT _ m zo) (λv hv'=>?_);subst hv';refine aj ?_;refine WT.cW 0 sv Z Z Z Z Z Z Z (λ_=>rfl) (Cf (m+1) _ hc (d:=xs.toArray) hv 0 m (Go.Sort.bitsLen m) zo (R6 _) (AS _) hm zo) (λF7 v B7 hF7 hv7=>?_);refine aj ?_;refine⟨_,[_],rfl,bY,_,rfl,?_⟩;rw[Go.Sort.sort,show xs.toArray.size=m from by simp[hl]];exact hv7):p:=h
namespace Nky
abbrev FI:=Tryz.func167
abbrev Cf:=@uy
end Nky
open Nky in
theorem Bv(F:ar){lt:Key->Key->Bool}{g:Nat}{first capt:List Value}(hc:dV dB lt F g first capt){a0:Option Addr}{m c:Nat}{B:List (Nat×aE)}{xs:List Key}(hv:dM dB F a0 m c B xs)(hm:m<=1000000) :
  Abs.Spec CC 167 [.slice a0 m c,.func (.func g) ⟨first⟩ ⟨capt⟩] F [B] λF' v o=>∃B',o=[B']/\dM dB F' a0 m c B' (Go.Sort.sort lt xs.toArray).toList:=mW
def iM(x y:Key):Bool:=decide (x.gW<y.gW\/(x.gW=y.gW/\(x.to<y.to\/(x.to=y.to/\dw x.sym y.sym<0))))
theorem tA{x y:Key}:iM x y=true↔(x.gW<y.gW\/(x.gW=y.gW/\(x.to<y.to\/(x.to=y.to/\dw x.sym y.sym<0)))):=by unfold iM;exact decide_eq_true_iff
theorem sQ{x y:Key}:iM x y=false↔¬(x.gW<y.gW\/(x.gW=y.gW/\(x.to<y.to\/(x.to=y.to/\dw x.sym y.sym<0)))):=by unfold iM;exact decide_eq_false_iff_not
theorem po(a b:Sym):dw a b<0↔((a.term=true/\b.term=false)\/(a.term=b.term/\a.n<b.n)):=by
 obtain⟨at_,an⟩:=a;obtain⟨bt,bn⟩:=b;unfold dw aZ;cases at_<;>cases bt<;>simp<;>(repeat' split)<;>omega
theorem iO:Go.Sort.SWO iM where
 irrefl:=λx=>by rw[sQ,po];cases x.sym.term<;>simp
 trans:=λx y z h1 h2=>by
  rw[tA,po] at *;cases hx:x.sym.term<;>cases hy:y.sym.term<;>cases hz:z.sym.term<;>simp[hx,hy,hz] at h1 h2 ⊢<;>omega
 ntrans:=λx y z h1 h2=>by
  rw[sQ,po] at *;cases hx:x.sym.term<;>cases hy:y.sym.term<;>cases hz:z.sym.term<;>simp[hx,hy,hz] at h1 h2 ⊢<;>omega
theorem Ek(x y:Key)(h1:iM x y=false)(h2:iM y x=false):x=y:=by
 rw[sQ,po] at *;obtain⟨⟨xt,xn⟩,xf,xo⟩:=x;obtain⟨⟨yt,yn⟩,yf,yo⟩:=y;simp only at h1 h2;simp only[Key.mk.injEq,Sym.mk.injEq];cases xt<;>cases yt<;>simp at h1 h2 ⊢<;>omega
theorem Hs(x y:Key):jI [aZ x.gW y.gW,aZ x.to y.to,dw x.sym y.sym]<0↔iM x y=true:=by
 rw[tA];simp only[jI];generalize dw x.sym y.sym=z;unfold aZ
 repeat' split
 all_goals omega
theorem xS(F:ar)(x y:Key):Abs.Spec CC 168 [.agg ⟨[.bool x.sym.term,.int .i64 x.sym.n,.int .i64 x.gW,.int .i64 x.to]⟩,.agg ⟨[.bool y.sym.term,.int .i64 y.sym.n,.int .i64 y.gW,.int .i64 y.to]⟩] F [] λ_ v o=>o=[]/\v=.int .i64 (jI [aZ x.gW y.gW,aZ x.to y.to,dw x.sym y.sym]):=by
 refine Abs.Spec.fn (n:=22) Tryz.func168 rfl rfl λown=>?_;refine AW.seq (AW.dp ?_);refine WT.cy Z Z Z Z Z Z (λi2 hi2=>?_);refine WT.cy Z Z Z Z Z Z (λi3 hi3=>?_);refine aw ?_;refine AW.draw (ps:=[(6,4),(8,4),(11,4),(11,9),(13,4),(13,9)]) Z Z ?_;refine aw ?_;refine WT.a6 Tryz.func124 Z Z Z Z Z Z (dT _ _ _) (λv hv=>?_);subst hv;refine aw ?_;refine WT.a6 Tryz.func124 Z Z Z Z Z Z (dT _ _ _) (λv hv=>?_);subst hv;refine aw ?_;refine WT.a6 Tryz.func184 Z Z Z Z Z Z (xg _ x.sym y.sym) (λv hv=>?_);subst hv
 refine WT.be hT Z Z Z Z Z Z Z Z Z Z Z Z Z Z (λi9 hi9=>?_);refine WT.jt 0 Tryz.func123 Z Z Z Z Z Z Z (λG hG hBG=>vd G (l:=[aZ x.gW y.gW,aZ x.to y.to,dw x.sym y.sym]) (dR.frozen (F:=F) (B:=[(i9,.cells false [.int .i64 (aZ x.gW y.gW),.int .i64 (aZ x.to y.to),.int .i64 (dw x.sym y.sym)])]) ⟨rfl,.inr ⟨i9,_,rfl,rfl,rfl,aH.cons (l:=[_]) Z (aH.cons (l:=[_]) Z (aH.single (x:=dw x.sym y.sym) rfl)),by decide⟩⟩ hG hBG) (by decide)) (λv hv=>?_);subst hv;refine aw ?_;refine⟨oY,?_⟩;exact AW.ret ⟨_,[],⟨_,_,rfl,rfl,rfl⟩,bY,rfl,rfl⟩
theorem Av(F:ar):dV dB iM F 168 [] []:=
 ⟨⟨_,Tryz.func168,rfl⟩,λG _ lx ly x y hx hy=>by
  obtain rfl:lx=_:=hx;obtain rfl:ly=_:=hy;exact Spec.mono (xS G x y) (λF' v o _ h=>⟨h.1,_,h.2,Hs x y⟩)⟩
def fu:List Nat->List Nat->Int
 | [],[]=>0
 | [],_::_=>-1
 | _::_,[]=>1
 | a::l,b::m=>if aZ a b=0 then fu l m else aZ a b
theorem jK:∀(j:Nat) (l m:List Nat),j<=l.length->j<=m.length->(∀i (h1:i<l.length) (h2:i<m.length),i<j->aZ l[i] m[i]=0)->fu l m=fu (l.drop j) (m.drop j)
 | 0,l,m,_,_,_=>by simp
 | j+1,[],m,h,_,_=>by simp at h
 | j+1,_::_,[],_,h,_=>by simp at h
 | j+1,a::l,b::m,h1,h2,h=>by
  have h0:=h 0 (by simp) (by simp) zo;simp only[UW] at h0;simp only[fu,h0,SU,UI];exact jK j l m (by simpa using h1) (by simpa using h2) (λi h3 h4 h5=>h (i+1) (by simpa using h3) (by simpa using h4) zo)
theorem uU(F:ar){a b:Option Addr}{m n c d:Nat}{xs ys:List Nat}(hx:bj dD F a m c xs)(hy:bj dD F b n d ys)(hm:m<=1000000)(hn:n<=1000000) :
  Abs.Spec CC 94 [.slice a m c,.slice b n d] F [] λ_ v o=>o=[]/\v=.int .i64 (fu xs ys):=by
 refine Abs.Spec.fn (n:=36) Tryz.func94 rfl rfl λown=>?_;have hxlen:=hx.len;have hylen:=hy.len;refine aw ?_;refine AW.range (S:=Unit) (λ_=>[]) (λ_=>_) (λj _ _=>j<=n/\∀i (h1:i<xs.length) (h2:i<ys.length),i<j->aZ xs[i] ys[i]=0) m () Z Z Z Z Z Z Z Z Z zo Z Z (λ_=>rfl) (λ_=>rfl) sM oR ⟨by omega,by omega⟩ ?_ ?_
 ·intro j _ F1 hF1 hj hP;obtain⟨hjn,hP⟩:=hP;have hx1:=hx.mono hF1;have hy1:=hy.mono hF1;refine aw ?_;refine WT.bG hT hx1 Z Z Z Z Z Z Z Z Z zo (λx hxj b1 off ro cs lx hb hp hrel=>?_);obtain rfl:lx=_:=hrel;refine aw ?_;refine AW.cond Z (λhc=>?_) (λhc=>?_)
  ·have hc:n<=j:=by simp at hc;omega
   refine aw ?_;refine AW.ret ⟨_,[],⟨_,_,rfl,rfl,rfl⟩,bY,rfl,?_⟩;rw[jK j xs ys zo zo hP,SP (show ys.length<=j by omega),Sa (show j<xs.length by omega)];rfl
  ·have hc:j<n:=by simp at hc;omega
   refine aw ?_;refine WT.bG hT hy1 Z Z Z Z Z Z Z Z Z zo (λy hyj b2 off2 ro2 cs2 ly hb2 hp2 hrel2=>?_);obtain rfl:ly=_:=hrel2;refine aw ?_;refine WT.a6 Tryz.func124 Z Z Z Z Z Z (dT _ x y) (λv hv=>?_);subst hv;have ex:xs[j]'zo=x:=by rw[gE zo] at hxj;simpa using hxj
   have ey:ys[j]'zo=y:=by rw[gE zo] at hyj;simpa using hyj
   refine aw ?_;refine AW.cond Z (λhc2=>?_) (λhc2=>?_)
   ·have hc2:aZ x y≠0:=by simpa using hc2
    refine aw ?_;refine AW.ret ⟨_,[],⟨_,_,rfl,rfl,rfl⟩,bY,rfl,?_⟩;rw[jK j xs ys zo zo hP,Sa (show j<xs.length by omega),Sa (show j<ys.length by omega)];simp[fu,ex,ey,hc2,ej]
   ·have hc2:aZ x y=0:=by simpa using hc2
    refine aw ?_;refine⟨(),sM,dH,by omega,λi h1 h2 h3=>?_⟩;rcases R2 i j with h4 | h4
    ·exact hP i h1 h2 h4
    ·have:i=j:=by omega
     subst this;rw[ex,ey];exact hc2
 ·intro _ F1 hF1 hP;obtain⟨hjn,hP⟩:=hP;refine aw ?_;have e:=jK m xs ys zo zo hP;rw[SP (show xs.length<=m by omega)] at e;refine AW.cond Z (λhc=>?_) (λhc=>?_)
  ·have hc:m<n:=by simp at hc;omega
   refine aw ?_;refine AW.ret ⟨_,[],⟨_,_,rfl,rfl,rfl⟩,bY,rfl,?_⟩;rw[e,Sa (show m<ys.length by omega)];rfl
  ·have hc:m=n:=by simp at hc;omega
   refine aw ?_;refine AW.ret ⟨_,[],⟨_,_,rfl,rfl,rfl⟩,bY,rfl,?_⟩;rw[e,SP (show ys.length<=m by omega)];rfl
structure iK where
 az:Nat
 kids:List Nat
deriving DecidableEq
def gQ:Ty iK where
 size:=2
 rel:=λF l x=>∃a n c,l=[.int .i64 x.az,.slice a n c]/\bj dD F a n c x.kids/\x.kids.length<=1000000
 len:=λ_ _ _ h=>by obtain⟨a,n,c,rfl,_⟩:=h;rfl
 one:=λ_ _ _ h=>by obtain⟨a,n,c,rfl,_⟩:=h;rfl
 mono:=λ_ _ _ _ hF h=>by obtain⟨a,n,c,e,h,hb⟩:=h;exact⟨a,n,c,e,h.mono hF,hb⟩
def jq(x y:iK):Int:=jI [aZ x.az y.az,fu x.kids y.kids]
theorem jk(F:ar){lx ly:List Value}(x y:iK)(hx:gQ.rel F lx x)(hy:gQ.rel F ly y):Abs.Spec CC 170 [.agg ⟨lx⟩,.agg ⟨ly⟩] F [] λ_ v o=>o=[]/\v=.int .i64 (jq x y):=by
 obtain⟨xa,xn,xc,rfl,hxa,hxb⟩:=hx;obtain⟨ya,yn,yc,rfl,hya,hyb⟩:=hy;have hxl:=hxa.len;have hyl:=hya.len;refine Abs.Spec.fn (n:=17) Tryz.func170 rfl rfl λown=>?_;refine AW.seq (AW.dp ?_);refine WT.cy Z Z Z Z Z Z (λi2 hi2=>?_);refine WT.cy Z Z Z Z Z Z (λi3 hi3=>?_);refine aw ?_;refine AW.draw (ps:=[(6,4),(8,4)]) Z Z ?_;refine aw ?_;refine WT.a6 Tryz.func124 Z Z Z Z Z Z (dT _ _ _) (λv hv=>?_);subst hv;refine aw ?_;refine WT.a6 Tryz.func94 Z Z Z Z Z Z (uU _ hxa hya zo zo) (λv hv=>?_);subst hv
 refine WT.be hT Z Z Z Z Z Z Z Z Z Z Z Z Z Z (λi9 hi9=>?_);refine WT.jt 0 Tryz.func123 Z Z Z Z Z Z Z (λG hG hBG=>vd G (l:=[aZ x.az y.az,fu x.kids y.kids]) (dR.frozen (F:=F) (B:=[(i9,.cells false [.int .i64 (aZ x.az y.az),.int .i64 (fu x.kids y.kids)])]) ⟨rfl,.inr ⟨i9,_,rfl,rfl,rfl,aH.cons (l:=[_]) Z (aH.single (x:=fu x.kids y.kids) rfl),by decide⟩⟩ hG hBG) (by decide)) (λv hv=>?_);subst hv;refine aw ?_;refine⟨oY,?_⟩;exact AW.ret ⟨_,[],⟨_,_,rfl,rfl,rfl⟩,bY,rfl,rfl⟩
def rX(xs:List iK):Prop:=∀(i j:Nat) (x y:iK),i<j->xs[i]?=some x->xs[j]?=some y->¬jq y x<0
theorem yK(F:ar){a0:Option Addr}{m c:Nat}{xs:List iK}(hv:bj gQ F a0 m c xs)(hs:rX xs)(a b:Nat)(ha:a<=1000000)(hb:b<=m)(hm:m<=1000000) :
  Abs.Spec CC 232 [.slice a0 m c,.int .i64 a,.int .i64 b,.func (.func 170) ⟨[]⟩ ⟨[]⟩] F [] λF' v o=>o=[]/\v=.tuple ⟨[]⟩:=by
 have hvl:=hv.len;refine Abs.Spec.fn (n:=53) Tryz.func232 rfl rfl λown=>?_;refine aj ?_;refine AW.block ?_;refine AW.cm (S:=Nat) (λs=>[(8,.int .i64 (s:Nat))]) (λs=>own) (λs G=>a+1<=s) (λs=>b-s) (a+1)
  sM oR (AS _) ?_
 intro s F1 hF1 hP;have hv1:=hv.mono hF1;refine aj ?_;refine AW.cond Z (λh=>?_) (λh=>?_)
 ·have h:s<b:=by simpa using h
  refine aj ?_;refine AW.block ?_;refine aj ?_;refine AW.block ?_;refine AW.cm (S:=Unit) (λu=>[]) (λu=>own) (λu G=>True) (λu=>0) ()
   sM oR trivial ?_
  intro u F2 hF2 _;have hv2:=hv1.mono hF2;refine aj ?_;refine WT.split 21 Z (λhja=>?_) (λhja=>absurd hja (by simp;omega));refine aj ?_;refine WT.bG hT hv2 Z Z Z Z Z Z Z Z Z zo (λy hy b1 off ro cs ly hb1 hp1 hrel1=>?_);obtain⟨ya,yn,yc,hly,hya⟩:=id hrel1;subst hly;refine aj ?_;refine WT.bG hT hv2 Z Z Z Z Z Z Z Z Z zo (λx hx b2 off2 ro2 cs2 lx hb2 hp2 hrel2=>?_);obtain⟨xa,xn,xc,hlx,hxa⟩:=id hrel2;subst hlx;refine aj ?_;refine WT.eB Tryz.func170 Z Z Z Z Z Z Z Z (jk _ y x hrel1 hrel2) (λv hv=>?_);subst hv;have hno:=hs (s-1) s x y zo hx hy;refine aj ?_
  refine AW.cond Z (λh=>absurd h (by simpa using hno)) (λ_=>?_);refine AW.exit ?_;refine aj ?_;exact⟨s+1,by omega,sM,ah.refl _,by omega⟩
 ·have h:¬s<b:=by simpa using h
  refine AW.exit ?_;refine⟨_,[],rfl,bY,rfl,rfl⟩
theorem px{xs:List iK}(hs:rX xs):∀(N:Nat) (F:ar) {a0:Option Addr} {len cc:Nat} (hv:bj gQ F a0 len cc xs) (a m b:Nat) (hN:b-a<N) (ham:a<m) (hmb:m<b) (hb:b<=len) (hm:len<=1000000),
  Abs.Spec CC 233 [.slice a0 len cc,.int .i64 a,.int .i64 m,.int .i64 b,.func (.func 170) ⟨[]⟩ ⟨[]⟩] F [] λF' v o=>o=[]/\v=.tuple ⟨[]⟩
 | 0,F,a0,len,cc,hv,a,m,b,hN,_,_,_,_=>absurd hN (Tl _)
 | N+1,F,a0,len,cc,hv,a,m,b,hN,ham,hmb,hb,hm=>by
  have hvl:=hv.len;refine Abs.Spec.fn (n:=220) Tryz.func233 rfl rfl λown=>?_;refine aj ?_;refine AW.cond Z (λh=>?_) (λh=>?_)
  ·have h:m=a+1:=by simp at h;omega
   refine aj ?_;refine AW.block ?_;refine AW.cm (S:=Nat) (λs=>[(11,.int .i64 (s:Nat))]) (λs=>own) (λs G=>m<=s/\s<=b) (λs=>s) b
    sM oR ⟨by omega,AS _⟩ ?_
   intro s F1 hF1 hP;have hv1:=hv.mono hF1;obtain⟨hms,hsb⟩:=hP;refine aj ?_;refine AW.cond Z (λh2=>?_) (λh2=>?_)
   ·have h2:m<s:=by simpa using h2
    refine aj ?_;refine AW.block ?_;refine aj ?_;refine WT.conv hT (k2:=.u64) Z Z Z Z Z Z Z Z (iq zo) ?_
    refine WT.Kn Z Z Z Z Z Z (by decide) (wM (x:=m+s) (y:=1) (by decide)) ?_;refine WT.conv hT (k2:=.i64) Z Z Z Z Z Z Z Z (wrap64 zo) ?_
    rw[Nat.pow_one];refine aj ?_;refine WT.bG hT hv1 Z Z Z Z Z Z Z Z Z zo (λy hy b1 off ro cs ly hb1 hp1 hrel1=>?_);obtain⟨ya,yn,yc,hly,hya⟩:=id hrel1;subst hly;refine aj ?_;refine WT.bG hT hv1 Z Z Z Z Z Z Z Z Z zo (λx hx b2 off2 ro2 cs2 lx hb2 hp2 hrel2=>?_);obtain⟨xa,xn,xc,hlx,hxa⟩:=id hrel2;subst hlx;refine aj ?_;refine WT.eB Tryz.func170 Z Z Z Z Z Z Z Z (jk _ y x hrel1 hrel2) (λv hv=>?_);subst hv;have hno:=hs a ((m+s) / 2) x y zo hx hy;refine aj ?_;refine AW.cond Z (λh=>absurd h (by simpa using hno)) (λ_=>?_);refine aj ?_
    exact⟨(m+s) / 2,by omega,sM,ah.refl _,by omega,by omega⟩
   ·have h2:s=m:=by simp at h2;omega
    refine AW.exit ?_;refine aj ?_;refine AW.block ?_;refine AW.cm (S:=Unit) (λs=>[]) (λs=>own) (λs G=>True) (λs=>0) ()
     sM oR trivial ?_
    intro u F2 hF2 _;refine aj ?_;refine AW.cond Z (λh3=>(by simp at h3;omega)) (λ_=>?_);refine AW.exit ?_;exact AW.ret ⟨_,[],rfl,bY,rfl,rfl⟩
  ·have h:m≠a+1:=by intro e;subst e;simp at h
   refine aj ?_;refine AW.cond Z (λh'=>?_) (λh'=>?_)
   ·have h':b=m+1:=by simp at h';omega
    refine aj ?_;refine AW.block ?_;refine AW.cm (S:=Nat) (λs=>[(14,.int .i64 (s:Nat))]) (λs=>own) (λs G=>a<=s/\s<=m) (λs=>m-s) a
     sM oR ⟨AS _,by omega⟩ ?_
    intro s F1 hF1 hP;have hv1:=hv.mono hF1;obtain⟨hms,hsb⟩:=hP;refine aj ?_;refine AW.cond Z (λh2=>?_) (λh2=>?_)
    ·have h2:s<m:=by simpa using h2
     refine aj ?_;refine AW.block ?_;refine aj ?_;refine WT.conv hT (k2:=.u64) Z Z Z Z Z Z Z Z (iq zo) ?_
     refine WT.Kn Z Z Z Z Z Z (by decide) (wM (x:=s+m) (y:=1) (by decide)) ?_;refine WT.conv hT (k2:=.i64) Z Z Z Z Z Z Z Z (wrap64 zo) ?_
     rw[Nat.pow_one];refine aj ?_;refine WT.bG hT hv1 Z Z Z Z Z Z Z Z Z zo (λy hy b1 off ro cs ly hb1 hp1 hrel1=>?_);obtain⟨ya,yn,yc,hly,hya⟩:=id hrel1;subst hly;refine aj ?_;refine WT.bG hT hv1 Z Z Z Z Z Z Z Z Z zo (λx hx b2 off2 ro2 cs2 lx hb2 hp2 hrel2=>?_);obtain⟨xa,xn,xc,hlx,hxa⟩:=id hrel2;subst hlx;refine aj ?_;refine WT.eB Tryz.func170 Z Z Z Z Z Z Z Z (jk _ y x hrel1 hrel2) (λv hv=>?_);subst hv;have hno:=hs ((s+m) / 2) m x y zo hx hy;refine aj ?_;refine AW.cond Z (λ_=>?_) (λh=>absurd h (by simpa using hno));refine aj ?_
     exact⟨(s+m) / 2+1,by omega,sM,ah.refl _,by omega,by omega⟩
    ·have h2:s=m:=by simp at h2;omega
     subst h2;refine AW.exit ?_;refine aj ?_;refine AW.block ?_;refine AW.cm (S:=Unit) (λs=>[]) (λs=>own) (λs G=>True) (λs=>0) ()
      sM oR trivial ?_
     intro u F2 hF2 _;refine aj ?_;refine AW.cond Z (λh3=>(by simp at h3)) (λ_=>?_);refine AW.exit ?_;exact AW.ret ⟨_,[],rfl,bY,rfl,rfl⟩
   ·have h':b≠m+1:=by intro e;subst e;simp at h'
    refine aj ?_;refine WT.conv hT (k2:=.u64) Z Z Z Z Z Z Z Z (iq zo) ?_
    refine WT.Kn Z Z Z Z Z Z (by decide) (wM (x:=a+b) (y:=1) (by decide)) ?_;refine WT.conv hT (k2:=.i64) Z Z Z Z Z Z Z Z (wrap64 zo) ?_
    rw[Nat.pow_one];obtain⟨mid,hmid⟩:∃mid,(a+b) / 2=mid:=⟨_,rfl⟩;rw[hmid];refine aj ?_;refine AW.Fs (S:=Nat×Nat) (λs=>[(20,.int .i64 (s.1:Nat)),(21,.int .i64 (s.2:Nat))]) (λs=>own) (λs G=>(mid<m/\s.1=mid+m-b/\s.2=mid)\/(m<=mid/\s.1=a/\s.2=m)) ?_ (λs F1 hF1 hP=>?_)
    ·refine AW.cond Z (λh2=>?_) (λh2=>?_)
     ·have h2:mid<m:=by simp at h2;omega
      refine aj ?_;exact⟨(mid+m-b,mid),sM,ah.refl _,.inl ⟨h2,rfl,rfl⟩⟩
     ·have h2:m<=mid:=by simp at h2;omega
      refine aj ?_;exact⟨(a,m),sM,ah.refl _,.inr ⟨h2,rfl,rfl⟩⟩
    ·obtain⟨st,r⟩:=s;dsimp only at hP ⊢;have hv1:=hv.mono hF1;have hst:st<=r:=by omega
     have hrm:r<=m/\r<=mid:=by omega
     refine aj ?_;refine AW.block ?_;refine AW.cm (S:=Nat) (λs=>[(20,.int .i64 (s:Nat))]) (λs=>own) (λs G=>st<=s/\s<=r) (λs=>r-s) st
      sM oR ⟨AS _,hst⟩ ?_
     intro u F2 hF2 hP2;obtain⟨hu1,hu2⟩:=hP2;have hv2:=hv1.mono hF2;refine aj ?_;refine AW.cond Z (λh2=>?_) (λh2=>?_)
     ·have h2:u<r:=by simpa using h2
      refine aj ?_;refine AW.block ?_;refine aj ?_;refine WT.conv hT (k2:=.u64) Z Z Z Z Z Z Z Z (iq zo) ?_
      refine WT.Kn Z Z Z Z Z Z (by decide) (wM (x:=u+r) (y:=1) (by decide)) ?_;refine WT.conv hT (k2:=.i64) Z Z Z Z Z Z Z Z (wrap64 zo) ?_
      rw[Nat.pow_one];obtain⟨cx,hcx⟩:∃cx,(u+r) / 2=cx:=⟨_,rfl⟩;rw[hcx];have hc1:u<=cx/\cx<r:=by omega
      refine aj ?_;refine WT.bG hT hv2 Z Z Z Z Z Z Z Z Z zo (λy hy b1 off ro cs ly hb1 hp1 hrel1=>?_);obtain⟨ya,yn,yc,hly,hya⟩:=id hrel1;subst hly;refine aj ?_;refine WT.bG hT hv2 Z Z Z Z Z Z Z Z Z zo (λx hx b2 off2 ro2 cs2 lx hb2 hp2 hrel2=>?_);obtain⟨xa,xn,xc,hlx,hxa⟩:=id hrel2;subst hlx;refine aj ?_;refine WT.eB Tryz.func170 Z Z Z Z Z Z Z Z (jk _ y x hrel1 hrel2) (λv hv=>?_);subst hv;have hno:=hs cx _ x y zo hx hy;refine aj ?_;refine AW.cond Z (λ_=>?_) (λh=>absurd h (by simpa using hno));refine aj ?_
      exact⟨cx+1,by omega,sM,ah.refl _,by omega,by omega⟩
     ·have h2:u=r:=by simp at h2;omega
      subst h2;refine AW.exit ?_;refine aj ?_;rcases hP with ⟨hq,_,hu⟩ | ⟨hq,_,hu⟩
      ·subst hu;have he:u+m-u=m:=by omega
       refine WT.split 181 Z (λe=>?_) (λe=>absurd e (by simp;omega));refine aj ?_;refine AW.cond Z (λe=>absurd e (by simp)) (λ_=>?_);refine aj ?_;refine WT.split 195 Z (λe=>?_) (λe=>absurd e (by simp;omega));refine aj ?_;refine AW.cond Z (λe=>absurd e (by simp)) (λ_=>?_);refine aj ?_;refine WT.split 209 Z (λe=>?_) (λe=>absurd e (by simp;omega));refine aj ?_;refine AW.cond Z (λ_=>?_) (λe=>absurd e (by simp;omega));rw[he];refine aj ?_;refine WT.a6 Tryz.func233 Z Z Z Z Z Z (px hs N _ hv2 u m b zo zo hmb hb hm) (λv hv=>?_);refine aj ?_
       refine⟨_,[],rfl,bY,rfl,rfl⟩
      ·subst hu;have he:mid+u-u=mid:=by omega
       refine WT.split 181 Z (λe=>absurd e (by simp)) (λe=>?_);refine aj ?_;refine AW.cond Z (λe=>absurd e (by simp)) (λ_=>?_);refine aj ?_;refine WT.split 195 Z (λe=>?_) (λe=>absurd e (by simp;omega));refine aj ?_;rw[he];refine AW.cond Z (λe=>?_) (λe=>?_)
       ·have e:u<mid:=by simpa using e
        refine aj ?_;refine WT.a6 Tryz.func233 Z Z Z Z Z Z (px hs N _ hv2 a u mid zo ham e zo hm) (λv hv=>?_);refine aj ?_;refine WT.split 209 Z (λe=>absurd e (by simp)) (λe=>?_);refine aj ?_;refine AW.cond Z (λe=>absurd e (by simp)) (λ_=>?_);refine aj ?_;refine⟨_,[],rfl,bY,rfl,rfl⟩
       ·refine aj ?_;refine WT.split 209 Z (λe=>absurd e (by simp)) (λe=>?_);refine aj ?_;refine AW.cond Z (λe=>absurd e (by simp)) (λ_=>?_);refine aj ?_;refine⟨_,[],rfl,bY,rfl,rfl⟩
theorem Aa(F:ar){a0:Option Addr}{m c:Nat}{xs:List iK}(hv:bj gQ F a0 m c xs)(hs:rX xs)(hm:m<=1000000) :
  Abs.Spec CC 203 [.slice a0 m c,.int .i64 m,.func (.func 170) ⟨[]⟩ ⟨[]⟩] F [] λF' v o=>o=[]/\v=.tuple ⟨[]⟩:=by
 have hvl:=hv.len;refine Abs.Spec.fn (n:=63) Tryz.func203 rfl rfl λown=>?_;refine aj ?_;refine AW.block ?_;refine AW.cm (S:=Nat) (λs=>[(7,.int .i64 (s:Nat)),(8,.int .i64 ((s+20:Nat):Int))]) (λs=>own) (λs G=>s<=m) (λs=>m-s) 0
  sM oR (R6 _) ?_
 intro s F1 hF1 hP;have hv1:=hv.mono hF1;refine aj ?_;refine AW.cond Z (λh2=>?_) (λh2=>?_)
 ·have h2:s+20<=m:=by simp at h2;omega
  refine aj ?_;refine AW.block ?_;refine aj ?_;refine WT.a6 Tryz.func232 Z Z Z Z Z Z (yK _ hv1 hs s (s+20) zo h2 hm) (λv hv'=>?_);refine aj ?_;exact⟨s+20,by omega,sM,ah.refl _,h2⟩
 ·refine AW.exit ?_;refine aj ?_;refine WT.a6 Tryz.func232 Z Z Z Z Z Z (yK _ hv1 hs s m zo (AS _) hm) (λv hv'=>?_);refine aj ?_;refine AW.block ?_;refine AW.cm (S:=Nat×Nat×Nat) (λs=>[(6,.int .i64 (s.1:Nat)),(7,.int .i64 (s.2.1:Nat)),(8,.int .i64 (s.2.2:Nat))]) (λs=>own) (λs G=>0<s.1) (λs=>m-s.1) (20,s,s+20)
   sM oR (show 0<20 by decide) ?_
  intro u F2 hF2 hP2;have hv2:=hv1.mono hF2;obtain⟨bs,ua,ub⟩:=u;dsimp only at hP2 ⊢;refine aj ?_;refine AW.cond Z (λh3=>?_) (λh3=>?_)
  ·have h3:bs<m:=by simpa using h3
   refine aj ?_;refine AW.block ?_;refine aj ?_;refine AW.block ?_;refine AW.cm (S:=Nat×Nat) (λs=>[(7,.int .i64 (s.1:Nat)),(8,.int .i64 (s.2:Nat))]) (λs=>own) (λs G=>s.1<=m/\s.2=s.1+2*bs) (λs=>m-s.1) (0,2*bs)
    sM oR ⟨R6 _,by omega⟩ ?_
   intro z F3 hF3 hP3;have hv3:=hv2.mono hF3;obtain⟨za,zb⟩:=z;dsimp only at hP3 ⊢;obtain⟨hz1,hz2⟩:=hP3;subst hz2;refine aj ?_;refine AW.cond Z (λh4=>?_) (λh4=>?_)
   ·have h4:za+2*bs<=m:=by simp at h4;omega
    refine aj ?_;refine AW.block ?_;refine aj ?_;refine WT.a6 Tryz.func233 Z Z Z Z Z Z (px hs _ _ hv3 za (za+bs) (za+2*bs) (Td _) zo zo h4 hm) (λv hv'=>?_);refine aj ?_;exact⟨(za+2*bs,za+2*bs+2*bs),by dsimp only;omega,sM,ah.refl _,h4,rfl⟩
   ·have h4:m<za+2*bs:=by simp at h4;omega
    refine AW.exit ?_;refine aj ?_;refine AW.cond Z (λh5=>?_) (λh5=>?_)
    ·have h5:za+bs<m:=by simp at h5;omega
     refine aj ?_;refine WT.a6 Tryz.func233 Z Z Z Z Z Z (px hs _ _ hv3 za (za+bs) m (Td _) zo h5 (AS _) hm) (λv hv'=>?_);refine aj ?_;refine WT.mulL 2 Z Z Z Z Z Z zo ?_;refine aj ?_;exact⟨(bs*2,za,za+2*bs),by dsimp only;omega,sM,ah.refl _,by dsimp only;omega⟩
    ·refine aj ?_;refine WT.mulL 2 Z Z Z Z Z Z zo ?_;refine aj ?_;exact⟨(bs*2,za,za+2*bs),by dsimp only;omega,sM,ah.refl _,by dsimp only;omega⟩
  ·refine AW.exit ?_;refine⟨_,[],rfl,bY,rfl,rfl⟩
theorem tG(F:ar){a0:Option Addr}{m c:Nat}{xs:List iK}(hv:bj gQ F a0 m c xs)(hs:rX xs)(hm:m<=1000000) :
  Abs.Spec CC 169 [.slice a0 m c,.func (.func 170) ⟨[]⟩ ⟨[]⟩] F [] λF' v o=>o=[]/\v=.tuple ⟨[]⟩:=by
 refine Abs.Spec.fn (n:=9) Tryz.func169 rfl rfl λown=>?_;refine aj ?_;refine WT.a6 Tryz.func203 Z Z Z Z Z Z (Aa _ hv hs hm) (λv hv'=>?_);refine aj ?_;refine⟨_,[],rfl,bY,rfl,rfl⟩
inductive cT(g:ai)(w:List Nat)(E:List (List Nat))(root:Key):Key->Prop
 | root:cT g w E root root
 | K1 {k q:Key} {p:eI}:cT g w E root k->p∈bU g w E k->q∈p.kids->cT g w E root q
def iw(g:ai)(w:List Nat)(k:Key):Prop:=ck g.ae g.au k.sym/\k.gW<=w.length/\k.to<=w.length
theorem vS{w:List Nat}{E:List (List Nat)}{to:Nat}:∀{l:List Sym} {i:Nat} {ks:List Key},ks∈splits w E to l i->i<=w.length->to<=w.length->∀q∈ks,q.sym∈l/\q.gW<=w.length/\q.to<=w.length
 | [],i,ks,h,_,_,q,hq=>by
  unfold splits at h;split at h
  ·rw[RK.1 h] at hq;cases hq
  ·cases h
 | s::l,i,ks,h,hi,hto,q,hq=>by
  unfold splits at h;obtain⟨m,hm1,hm⟩:=S3.1 h;have hm1:=RQ.1 hm1;split at hm
  ·obtain⟨ks',h2,rfl⟩:=RI.1 hm;rcases R0.1 hq with rfl | hq
   ·exact⟨RR ..,hi,by show m<=_;omega⟩
   ·have:=vS h2 zo hto q hq;exact⟨If _ this.1,this.2⟩
  ·cases hm
theorem kR{g:ai}{w:List Nat}{E:List (List Nat)}{k:Key}{p:eI}:p∈bU g w E k↔∃r,g.rules[p.az]?=some r/\r.left=k.sym.n/\k.sym.term=false/\p.kids∈splits w E k.to r.right k.gW:=by
 unfold bU;rw[S3];constructor
 ·rintro⟨i,hi,hp⟩;unfold bJ at hp;split at hp
  ·rename_i r hr;split at hp
   ·rename_i hc;obtain⟨ks,hks,rfl⟩:=RI.1 hp;exact⟨r,hr,hc.1,hc.2,hks⟩
   ·cases hp
  ·cases hp
 ·rintro⟨r,hr,h1,h2,h3⟩;refine⟨p.az,RQ.2 (gS hr).1,?_⟩;unfold bJ;rw[hr];simp only;rw[By ⟨h1,h2⟩];exact RI.2 ⟨p.kids,h3,by cases p;rfl⟩
theorem JC{g:ai}(hg:Valid g){w:List Nat}{E:List (List Nat)}{k q:Key}{p:eI}(hk:iw g w k)(hp:p∈bU g w E k)(hq:q∈p.kids):iw g w q:=by
 obtain⟨r,hr,_,_,h3⟩:=kR.1 hp;obtain⟨h4,h5,h6⟩:=vS h3 hk.2.1 hk.2.2 q hq;exact⟨(hg.right r (gM hr)).2.2 _ h4,h5,h6⟩
theorem cT.Gc{g:ai}(hg:Valid g){w:List Nat}{E:List (List Nat)}{root k:Key}(h:cT g w E root k)(hr:iw g w root):iw g w k:=by
 induction h with
 | root=>exact hr
 | K1 _ hp hq ih=>exact JC hg ih hp hq
def zS(k:Key):Nat:=(if k.sym.term=true then 100 else 0)*961+k.sym.n*961+k.gW*31+k.to
theorem vG{g:ai}(hg:Valid g){w:List Nat}(hw:w.length<=30){L:List Key}(hL:∀k∈L,iw g w k)(hn:L.Nodup):L.length<=200000:=by
 have hgr:=hg.range;have bd:∀k∈L,k.sym.n<10/\k.gW<=30/\k.to<=30:=λk hk=>by
  obtain⟨h1,h2,h3⟩:=hL k hk;unfold ck at h1;have:=hgr.ae;have:=hgr.au;split at h1<;>exact⟨by omega,by omega,by omega⟩
 have h:=qM 200000 (L.map zS) ?_ ?_
 ·rwa [RL] at h
 ·rw[SW,TC];refine(SW.1 hn).imp_of_mem ?_;intro a b ha hb hne he;apply hne;have h1:=bd a ha;have h2:=bd b hb;obtain⟨⟨at_,an⟩,af,ao⟩:=a;obtain⟨⟨bt,bn⟩,bf,bo⟩:=b;unfold zS at he;simp only at he h1 h2;simp only[Key.mk.injEq,Sym.mk.injEq];cases at_<;>cases bt<;>simp at he ⊢<;>omega
 ·intro x hx;obtain⟨k,hk,rfl⟩:=RI.1 hx;have h1:=bd k hk;unfold zS;split<;>omega
inductive NJ:List Key->List Key->Prop
 | here {a b:Key} {l m:List Key}:a.sym=b.sym->a.gW=b.gW->a.to<b.to->NJ (a::l) (b::m)
 | next {a:Key} {l m:List Key}:NJ l m->NJ (a::l) (a::m)
theorem pO{w:List Nat}{E:List (List Nat)}{to:Nat}:∀(l:List Sym) (i:Nat),(splits w E to l i).Pairwise NJ
 | [],i=>by unfold splits;split<;>simp
 | s::l,i=>by
  unfold splits;rw[List.pairwise_flatMap];constructor
  ·intro m _;split
   ·rw[TC];exact(pO l m).imp .next
   ·exact .nil
  ·refine UY.imp ?_;intro m m' hm x hx y hy;split at hx
   ·split at hy
    ·obtain⟨x',_,rfl⟩:=RI.1 hx;obtain⟨y',_,rfl⟩:=RI.1 hy;exact .here rfl rfl hm
    ·cases hy
   ·cases hx
def Qw(p q:eI):Prop:=p.az<q.az\/(p.az=q.az/\NJ p.kids q.kids)
theorem AO(g:ai)(w:List Nat)(E:List (List Nat))(k:Key):(bU g w E k).Pairwise Qw:=by
 unfold bU;rw[List.pairwise_flatMap];constructor
 ·intro i _;unfold bJ;split
  ·split
   ·rw[TC];exact(pO _ _).imp λh=>.inr ⟨rfl,h⟩
   ·exact .nil
  ·exact .nil
 ·refine UY.imp ?_;intro i j hij x hx y hy;have at_:∀{i:Nat} {x:eI},x∈bJ g w E k i->x.az=i:=by
   intro i x hx;unfold bJ at hx;split at hx
   ·split at hx
    ·obtain⟨_,_,rfl⟩:=RI.1 hx;rfl
    ·cases hx
   ·cases hx
  left;rw[at_ hx,at_ hy];exact hij
structure Node where
 key:Key
 fX:List iK
def ke:Ty Node where
 size:=5
 rel:=λF l x=>∃a n c,l=[.bool x.key.sym.term,.int .i64 x.key.sym.n,.int .i64 x.key.gW,.int .i64 x.key.to,.slice a n c]/\bj gQ F a n c x.fX
 len:=λ_ _ _ h=>by obtain⟨a,n,c,rfl,_⟩:=h;rfl
 one:=λ_ _ _ h=>by obtain⟨a,n,c,rfl,_⟩:=h;rfl
 mono:=λ_ _ _ _ hF h=>by obtain⟨a,n,c,e,h⟩:=h;exact⟨a,n,c,e,h.mono hF⟩
def place(S:List Key)(k:Key):Nat:=S.idxOf k
def gH(S:List Key)(p:eI):iK:=⟨p.az,p.kids.map (place S)⟩
def mkNode(g:ai)(w:List Nat)(E:List (List Nat))(S:List Key)(k:Key):Node:=⟨k,(bU g w E k).map (gH S)⟩
theorem vH{S:List Key}{k:Key}(h:k∈S):S[place S k]?=some k:=by
 unfold place;rw[gE (Uz h),List.getElem_idxOf]
theorem J4{S:List Key}(hn:S.Nodup){k:Key}{i:Nat}(h:S[i]?=some k):place S k=i:=by
 have h1:=vH (gM h);obtain⟨h2,h3⟩:=gS h;obtain⟨h4,h5⟩:=gS h1;rcases Nat.lt_trichotomy (place S k) i with h6 | h6 | h6
 ·exact absurd (h5.trans h3.symm) (Tv.1 (SW.1 hn) _ _ h4 h2 h6)
 ·exact h6
 ·exact absurd (h3.trans h5.symm) (Tv.1 (SW.1 hn) _ _ h2 h4 h6)
theorem IL{S:List Key}(hs:S.Pairwise (λx y=>iM x y=true)){a b:Key}(ha:a∈S)(hb:b∈S)(h:iM a b=true):place S a<place S b:=by
 have h1:=vH ha;have h2:=vH hb;obtain⟨h3,h4⟩:=gS h1;obtain⟨h5,h6⟩:=gS h2;rcases Nat.lt_trichotomy (place S a) (place S b) with h7 | h7 | h7
 ·exact h7
 ·have:a=b:=by rw[<-h4,<-h6];simp only[h7]
  subst this;rw[iO.irrefl] at h;cases h
 ·have:=Tv.1 hs _ _ h5 h3 h7;rw[h4,h6] at this;have h8:=iO.trans _ _ _ h this;rw[iO.irrefl] at h8;cases h8
theorem KR{S:List Key}(hs:S.Pairwise (λx y=>iM x y=true)):∀{l m:List Key},NJ l m->(∀q∈l,q∈S)->(∀q∈m,q∈S)->0<fu (m.map (place S)) (l.map (place S))/\fu (l.map (place S)) (m.map (place S))<0:=by
 intro l m h
 induction h with
 | @here a b l m h1 h2 h3=>
  intro hl hm;have hlt:place S a<place S b:=IL hs (hl a me) (hm b me) (by rw[tA];right;exact⟨h2,.inl h3⟩);simp only[JN,fu];have e1:aZ (place S b:Nat) (place S a:Nat)=1:=by unfold aZ;rw[AT zo,By zo]
  have e2:aZ (place S a:Nat) (place S b:Nat)=-1:=by unfold aZ;rw[By zo]
  rw[e1,e2];simp
 | @next a l m _ ih=>
  intro hl hm;have e:aZ (place S a:Nat) (place S a:Nat)=0:=by unfold aZ;rw[AT zo,AT zo]
  simp only[JN,fu,e,SU];exact ih (λq hq=>hl q (If _ hq)) (λq hq=>hm q (If _ hq))
structure mO(g:ai)(w:List Nat)(E:List (List Nat))(root:Key)(S:List Key):Prop where
 sorted:S.Pairwise (λx y=>iM x y=true)
 reach:∀k∈S,cT g w E root k
 first:root∈S
 closed:∀k∈S,∀p∈bU g w E k,∀q∈p.kids,q∈S
theorem mO.nodup{g:ai}{w:List Nat}{E:List (List Nat)}{root:Key}{S:List Key}(h:mO g w E root S):S.Nodup:=by
 rw[SW];refine h.sorted.imp ?_;rintro a b hab rfl;rw[iO.irrefl] at hab;cases hab
theorem mO.all{g:ai}{w:List Nat}{E:List (List Nat)}{root:Key}{S:List Key}(h:mO g w E root S){k:Key}(hk:cT g w E root k):k∈S:=by
 induction hk with
 | root=>exact h.first
 | K1 _ hp hq ih=>exact h.closed _ ih _ hp _ hq
theorem Kz{S:List Key}(hs:S.Pairwise (λx y=>iM x y=true)){p q:eI}(h:Qw p q)(hp:∀x∈p.kids,x∈S)(hq:∀x∈q.kids,x∈S):0<jq (gH S q) (gH S p)/\jq (gH S p) (gH S q)<0:=by
 unfold jq gH;simp only[jI];rcases h with h | ⟨h1,h2⟩
 ·have e1:aZ (q.az:Nat) (p.az:Nat)=1:=by unfold aZ;rw[AT zo,By zo]
  have e2:aZ (p.az:Nat) (q.az:Nat)=-1:=by unfold aZ;rw[By zo]
  rw[e1,e2];simp
 ·have e1:aZ (q.az:Nat) (p.az:Nat)=0:=by unfold aZ;rw[AT zo,AT zo]
  have e2:aZ (p.az:Nat) (q.az:Nat)=0:=by unfold aZ;rw[AT zo,AT zo]
  obtain⟨h3,h4⟩:=KR hs h2 hp hq;simp only[e1,e2,SU];rw[AT zo,AT zo];exact⟨h3,h4⟩
theorem C6{g:ai}{w:List Nat}{E:List (List Nat)}{root:Key}{S:List Key}(h:mO g w E root S){k:Key}(hk:k∈S):((bU g w E k).map (gH S)).Pairwise λx y=>0<jq y x/\jq x y<0:=by
 rw[TC];refine(AO g w E k).imp_of_mem ?_;intro a b ha hb hab;exact Kz h.sorted hab (λx hx=>h.closed k hk a ha x hx) (λx hx=>h.closed k hk b hb x hx)
theorem Ap{g:ai}{w:List Nat}{E:List (List Nat)}{root:Key}{S:List Key}(h:mO g w E root S){k:Key}(hk:k∈S):rX ((bU g w E k).map (gH S)):=by
 intro i j x y hij hx hy;obtain⟨h1,h2⟩:=gS hx;obtain⟨h3,h4⟩:=gS hy;have:=Tv.1 (C6 h hk) i j h1 h3 hij;rw[h2,h4] at this;omega
theorem KO(x y:Key):(((x.sym.term==y.sym.term)&&(((x.sym.n:Int)==(y.sym.n:Int))&&true))&&(((x.gW:Int)==(y.gW:Int))&&(((x.to:Int)==(y.to:Int))&&true)))=decide (x=y):=by
 rw[Ta];obtain⟨⟨xt,xn⟩,xf,xo⟩:=x;obtain⟨⟨yt,yn⟩,yf,yo⟩:=y;simp only[IN,SK,Su,Key.mk.injEq,Sym.mk.injEq,UP];constructor
 ·rintro⟨⟨rfl,h1⟩,h2,h3⟩;exact⟨⟨rfl,by omega⟩,by omega,by omega⟩
 ·rintro⟨⟨rfl,rfl⟩,rfl,rfl⟩;exact⟨⟨rfl,rfl⟩,rfl,rfl⟩
noncomputable def jx:oF CC 282 Key where
 key:=λx=>.agg ⟨[.bool x.sym.term,.int .i64 x.sym.n,.int .i64 x.gW,.int .i64 x.to]⟩
 ok:=λp=>vg hT 8 _ _ rfl
 eq:=λp q=>by
  have h:uA CC 8 282 (.agg ⟨[.bool p.sym.term,.int .i64 p.sym.n,.int .i64 p.gW,.int .i64 p.to]⟩) (.agg ⟨[.bool q.sym.term,.int .i64 q.sym.n,.int .i64 q.gW,.int .i64 q.to]⟩)=some (decide (p=q)):=by
   rw[<-KO];exact wC hT 8 _ _ _ _ rfl
  by_cases e:p=q
  ·exact .inl ⟨e,by rw[h];simp[e]⟩
  ·exact .inr ⟨e,by rw[h];simp[e]⟩
def cF(g:ai)(w:List Nat)(E:List (List Nat))(L:List Key):Nat:=(L.map λk=>(bU g w E k).length).sum
structure IS where
 L:List Key
 a:Option Addr
 c:Nat
 B:List (Nat×aE)
 se:cQ Key
structure KS where
 a:Option Addr
 n:Nat
 c:Nat
 B:List (Nat×aE)
structure BS where
 i:Nat
 L:List Key
 a:Option Addr
 c:Nat
 B:List (Nat×aE)
 pe:cQ Key
 se:cQ Key
 sN:Nat
structure HA(g:ai)(w:List Nat)(E:List (List Nat))(root:Key)(L:List Key)(se:cQ Key):Prop where
 nd:L.Nodup
 first:root∈L
 reach:∀k∈L,cT g w E root k
 seen:∀k,Abs.look se k=if k∈L then some (.bool true) else none
structure Li(g:ai)(w:List Nat)(E:List (List Nat))(root:Key)(F:ar)(s:BS):Prop where
 l:HA g w E root s.L s.se
 fX:∀j k,j<s.i->s.L[j]?=some k->∃a n c,Abs.look s.pe k=some (.slice a n c)/\bj pZ F a n c (bU g w E k)
 closed:∀j k,j<s.i->s.L[j]?=some k->∀p∈bU g w E k,∀q∈p.kids,q∈s.L
 sN:s.sN=cF g w E (s.L.take s.i)
 le:s.i<=s.L.length
theorem Li.mono{g:ai}{w:List Nat}{E:List (List Nat)}{root:Key}{F G:ar}{s:BS}(h:Li g w E root F s)(hF:ar.le F G):Li g w E root G s:=
 ⟨h.l,λj k h1 h2=>by obtain⟨a,n,c,h3,h4⟩:=h.fX j k h1 h2;exact⟨a,n,c,h3,h4.mono hF⟩,h.closed,h.sN,h.le⟩
theorem HA.add{g:ai}{w:List Nat}{E:List (List Nat)}{root:Key}{L:List Key}{se:cQ Key}(h:HA g w E root L se){k:Key}(hk:k∉L)(hr:cT g w E root k):HA g w E root (L++[k]) (dC se k (.bool true)) where
 nd:=by
  rw[S5];exact⟨h.nd,by simp,λa ha b hb e=>by rw[RK.1 hb] at e;exact hk (e▸ha)⟩
 first:=Sw _ h.first
 reach:=λq hq=>by
  rcases R5.1 hq with hq | hq
  ·exact h.reach q hq
  ·rw[RK.1 hq];exact hr
 seen:=λq=>by
  rw[Abs.gf,h.seen];by_cases e:q=k
  ·subst e;simp
  ·simp[e]
theorem uJ{g:ai}(hg:Valid g){w:List Nat}{E:List (List Nat)}{k:Key}(hk:k.to<=30):(bU g w E k).length<=32*923521:=by
 unfold bU;have:=nu (bJ g w E k) 923521 (List.range g.rules.length) λi _=>nM (λr hr=>(hg.right r hr).2.1) hk i;rw[S0] at this;exact AI this (OF _ (hg.range.rules))
theorem pU{g:ai}(hg:Valid g){w:List Nat}{E:List (List Nat)}{k:Key}(hk:k.to<=12):(bU g w E k).length<=913952:=by
 unfold bU;have:=nu (bJ g w E k) 28561 (List.range g.rules.length) λi _=>by
  unfold bJ;split
  ·rename_i r hr;split
   ·rw[RL];have h1:=qh (w:=w) (E:=E) (to:=k.to) (l:=r.right) (i:=k.gW);have h2:(k.to+1) ^ r.right.length<=13 ^ 4:=AI (Nat.pow_le_pow_left zo _) (RS (by decide) (hg.right r (gM hr)).2.1);have h3:13 ^ 4=28561:=by decide
    omega
   ·simp
  ·simp
 rw[S0] at this;exact AI this (AI (OF _ (hg.range.rules)) (by decide))
theorem rf{g:ai}{w:List Nat}{E:List (List Nat)}{L:List Key}{i:Nat}{k:Key}(h:L[i]?=some k):cF g w E (L.take (i+1))=cF g w E (L.take i)+(bU g w E k).length:=by
 unfold cF;rw[RZ,h];simp
theorem xz{g:ai}(hg:Valid g){w:List Nat}{E:List (List Nat)}:∀(L:List Key),(∀k∈L,k.to<=30)->cF g w E L<=L.length*(32*923521)
 | [],_=>by simp[cF]
 | k::L,h=>by
  have h1:=xz hg (E:=E) (w:=w) L λk hk=>h k (If _ hk);have h2:=uJ hg (E:=E) (w:=w) (h k me);unfold cF at h1 ⊢;rw[JN,SG,R4,Ss,S7];omega
def HZ(g:ai)(w:List Nat)(E:List (List Nat))(root:Key)(most:Nat)(F:ar)(v:Value):Prop:=
 (∃S a n c,v=.tuple ⟨[.agg ⟨[.slice a n c,.int .i64 (place S root:Nat)]⟩,.bool true]⟩/\mO g w E root S/\bj ke F a n c (S.map (mkNode g w E S))/\cF g w E S<=most)\/
 (v=.tuple ⟨[.agg ⟨[.slice none 0 0,.int .i64 0]⟩,.bool false]⟩/\∃L:List Key,L.Nodup/\(∀k∈L,cT g w E root k)/\most<cF g w E L)
theorem Ee(F:ar)(hL:Laid F)(g:ai)(hg:Valid g){ga:Option Addr}{gm gc:Nat}(hr:bj cC F ga gm gc g.rules){b:Option Addr}{n d:Nat}{w:List Nat}(hw:bj dD F b n d w)(hw12:w.length<=12)
  {a:Option Addr} {m c:Nat} {E:List (List Nat)} (hE:bj (cg xU) F a m c E) (hE2:gA g.au w.length E) (most:Nat) (hmost:most<=4611686018427387904) :
  Abs.Spec CC 117 [.agg ⟨ak g ga gm gc⟩,.slice b n d,.slice a m c,.int .i64 most] F [] λF' v o=>o=[]/\
   ((dX w E ⟨false,g.start⟩ 0 w.length=false/\v=.tuple ⟨[.agg ⟨[.slice none 0 0,.int .i64 (-1)]⟩,.bool true]⟩)\/
    (dX w E ⟨false,g.start⟩ 0 w.length=true/\HZ g w E ⟨⟨false,g.start⟩,0,w.length⟩ most F' v)):=by
 unfold ak;have hw1:w.length<=30:=by omega
 have hrl:=hr.len;have hwl:=hw.len;subst hwl;have hgr:=hg.range;have hgs:=hgr.start;have hEl:=hE2.size;refine Abs.Spec.fn (n:=187) Tryz.func117 rfl rfl λown=>?_;refine AW.seq (AW.dp ?_);refine WT.cy Z Z Z Z Z Z (λi4 hi4=>?_);refine WT.aK hT Z Z Z Z Z Z (λi8 hi8=>?_);refine aw ?_;refine WT.a6 Tryz.func84 Z Z Z Z Z Z (va _ _) (λv hv=>?_);subst hv;refine aw ?_;refine WT.aK hT Z Z Z Z Z Z (λi10 hi10=>?_);refine aw ?_;refine WT.bG hT hE Z Z Z Z Z Z Z Z Z zo (λrow hrow b1 off ro cs lx hb1 hp1 hrel=>?_);obtain⟨a2,n2,c2,rfl,hrow2⟩:=hrel
 have hrwl:=hE2.row row (gM hrow);refine aw ?_;refine WT.bG (j:=0) hT hrow2 Z Z Z Z Z Z Z Z Z zo (λx hx b3 off3 ro3 cs3 lx3 hb3 hp3 hrel3=>?_);obtain rfl:lx3=_:=hrel3;have hxb:=hE2.bit row (gM hrow) x (gM hx);have pwl:2 ^ (w.length+1)<=4294967296:=RS (j:=32) (by decide) zo;have hstep:dX w E ⟨false,g.start⟩ 0 w.length=x.testBit w.length:=by
  unfold dX;simp only[hrow,hx];simp
 refine aw ?_;refine WT.Ch (x:=x) (y:=w.length) Z Z Z Z Z Z zo ?_;refine WT.lF (x:=x / 2 ^ w.length) (y:=1) Z Z Z Z Z Z (T8 (Un _ _) zo) (by decide) ?_;rw[oL,<-hstep];refine aw ?_;refine AW.cond Z (λh=>?_) (λh=>?_)
 ·have h0:dX w E ⟨false,g.start⟩ 0 w.length=false:=by
   cases e:dX w E ⟨false,g.start⟩ 0 w.length with
   | false=>rfl
   | true=>rw[e] at h;simp at h
  refine aw ?_;exact AW.ret ⟨_,[],⟨_,_,⟨_,rfl,λG h0 s0=>br (s0.has (p:=1) rfl me) (bO hT rfl)⟩,⟨_,_,rfl,rfl,rfl⟩,rfl⟩,bY,rfl,.inl ⟨h0,rfl⟩⟩
 ·have h1:dX w E ⟨false,g.start⟩ 0 w.length=true:=by
   cases e:dX w E ⟨false,g.start⟩ 0 w.length with
   | false=>rw[e] at h;simp at h
   | true=>rfl
  have hroot:iw g w ⟨⟨false,g.start⟩,0,w.length⟩:=⟨by unfold ck;simpa using hgs,R6 _,AS _⟩;generalize hrt:(⟨⟨false,g.start⟩,0,w.length⟩:Key)=root at hroot ⊢;refine aw ?_;refine WT.makeMap Z Z Z Z (λim him=>?_);refine aw ?_;refine WT.be hT Z Z Z Z Z Z Z Z Z Z Z Z Z Z (λil hil=>?_);refine aw ?_;refine WT.makeMap Z Z Z Z (λis his=>?_);refine aw ?_;refine WT.Ad jx (key:=⟨⟨false,g.start⟩,0,w.length⟩) (m:=[]) hT 0 0 Z Z Z Z Z Z Z Z Z Z Z Z ?_;refine aw ?_;refine AW.block ?_
  refine AW.cm (S:=BS) (λs=>[(12,.slice s.a s.L.length s.c),(14,.int .i64 (s.sN:Nat)),(15,.int .i64 (s.i:Nat))])
   (λs=>[(is,.map (aG jx s.se))]::s.B::[(im,.map (aG jx s.pe))]::[(i10,.cells false [.bool false,.int .i64 g.start,.int .i64 0,.int .i64 w.length])]::[(i8,.cells false [.slice none 0 0,.int .i64 0])]::[(i4,.cells false [.int .i64 g.ae,.int .i64 g.au,.int .i64 g.start,.slice ga gm gc])]::own)
   (λs G=>dR dB G s.a s.L.length s.c s.B s.L/\Li g w E root G s/\s.sN<=most) (λs=>200001-s.i) ⟨0,[root],some ⟨il,0,none⟩,4,[(il,.cells false [.bool false,.int .i64 g.start,.int .i64 0,.int .i64 w.length])],[],dC [] root (.bool true),0⟩
   sM (ah.flat (by rw[<-hrt];exact NO _)) ⟨⟨rfl,.inr ⟨il,_,rfl,rfl,rfl,aH.single (R:=dB) (x:=root) (by rw[<-hrt];rfl),by decide⟩⟩,?_⟩ ?_
  ·refine⟨⟨⟨by simp,RK.2 rfl,λk hk=>by rw[RK.1 hk];exact .root,λk=>?_⟩,λj k hj _=>absurd hj (Tl _),λj k hj _=>absurd hj (Tl _),rfl,R6 _⟩,R6 _⟩;show Abs.look (dC [] root (.bool true)) k=_;rw[Abs.gf];simp[Abs.look]
  ·intro s F1 hF1 hP;obtain⟨hb,hI,hlim⟩:=hP;have hgood:∀k∈s.L,iw g w k:=λk hk=>(hI.l.reach k hk).Gc hg hroot;have hfew:=vG hg hw1 hgood hI.l.nd;have hr1:=hr.mono hF1;have hw1':=hw.mono hF1;have hE1:=hE.mono hF1;have hL1:=hL.mono hF1;refine pC ?_;refine AW.cond Z (λh2=>?_) (λh2=>?_)
   ·have h2:s.i<s.L.length:=by simpa using h2
    obtain⟨k,hk⟩:∃k,s.L[s.i]?=some k:=⟨_,gE h2⟩;have hkg:=hgood k (gM hk);have hkr:=hI.l.reach k (gM hk);have hpl:=uJ hg (E:=E) (w:=w) (show k.to<=30 by have:=hkg.2.2;omega);have hsum:=xz hg (E:=E) (w:=w) (s.L.take s.i) (λq hq=>by have:=(hgood q (List.mem_of_mem_take hq)).2.2;omega);rw[Sm,<-hI.sN] at hsum;have hcnt:s.sN<=200000*29552672:=AI hsum (Sl zo (by decide));refine pC ?_;refine AW.block ?_;refine pC ?_;refine WT.bA hT hb.vec Z Z Z Z Z Z Z Z Z zo (λb5 hb5=>?_)
    refine WT.cz hT 1 hb.vec hb5 hk Z Z Z Z Z Z Z Z Z (λl5 hl5=>?_);obtain rfl:l5=_:=hl5;refine WT.cO Tryz.func166 Z Z Z Z Z Z (D8 _ hL1 g hg hr1 hw1' hw1 hE1 hE2 k hkg.2.1 (by have:=hkg.2.2;omega)) (λF2 v hF2 hv=>?_);obtain⟨pa,pn,pc,rfl,hpk⟩:=hv;have hpkl:=hpk.len;have hb2:=hb.mono hF2;have hI2:=hI.mono hF2;refine pC ?_;refine AW.cond Z (λh3=>?_) (λh3=>?_)
    ·have h3:most<s.sN+pn:=by simp at h3;omega
     refine pC ?_;refine AW.ret ⟨_,[],⟨_,_,⟨_,rfl,λG h0 s0=>br (s0.has (p:=4) Z me) (bO hT rfl)⟩,⟨_,_,rfl,rfl,rfl⟩,rfl⟩,bY,rfl,.inr ⟨h1,.inr ⟨rfl,s.L.take (s.i+1),?_,λq hq=>hI.l.reach q (List.mem_of_mem_take hq),?_⟩⟩⟩
     ·exact(hI.l.nd).sublist (List.take_sublist ..)
     ·rw[rf hk,<-hI.sN,<-hpkl];exact h3
    ·have h3:s.sN+pn<=most:=by simp at h3;omega
     refine pC ?_;refine WT.bA hT hb2.vec Z Z Z Z Z Z Z Z Z zo (λb6 hb6=>?_);refine WT.cz hT 1 hb2.vec hb6 hk Z Z Z Z Z Z Z Z Z (λl6 hl6=>?_);obtain rfl:l6=_:=hl6;refine pC ?_;refine WT.oh jx (key:=k) hT 2 0 Z Z Z Z Z Z Z Z Z Z Z Z ?_;refine pC ?_
     refine AW.range (S:=IS) (λu=>[(12,.slice u.a u.L.length u.c)]) (λu=>[(is,.map (aG jx u.se))]::u.B::[(im,.map (aG jx (dC s.pe k (.slice pa pn pc))))]::[(i10,.cells false [.bool false,.int .i64 g.start,.int .i64 0,.int .i64 w.length])]::[(i8,.cells false [.slice none 0 0,.int .i64 0])]::[(i4,.cells false [.int .i64 g.ae,.int .i64 g.au,.int .i64 g.start,.slice ga gm gc])]::own)
      (λj u G=>dR dB G u.a u.L.length u.c u.B u.L/\HA g w E root u.L u.se/\(∃x,u.L=s.L++x)/\∀p∈(bU g w E k).take j,∀q∈p.kids,q∈u.L) pn ⟨s.L,s.a,s.c,s.B,s.se⟩
      Z Z Z Z Z Z Z Z Z zo rfl rfl (λ_=>rfl) (λ_=>rfl) sM oR ⟨hb2,hI.l,⟨[],by simp⟩,by simp⟩ ?_ ?_
     ·intro j u F3 hF3 hj hP3;obtain⟨hb3,hl3,hx3,hc3⟩:=hP3;have hpk3:=hpk.mono hF3;refine AV ?_;refine WT.bG hT hpk3 Z Z Z Z Z Z Z Z Z zo (λp hpj b7 off7 ro7 cs7 lx7 hb7 hp7 hrel7=>?_);obtain⟨ka,kn,kc,rfl,hka⟩:=hrel7;have hkal:=hka.len;have hpm:=gM hpj;have hkl4:p.kids.length<=4:=by
       obtain⟨r,hr0,_,_,h4⟩:=kR.1 hpm;rw[oy h4];exact(hg.right r (gM hr0)).2.1
      refine AV ?_;refine WT.aK hT Z Z Z Z Z Z (λi18 hi18=>?_);refine AV ?_;refine AW.range (S:=IS) (λu=>[(12,.slice u.a u.L.length u.c)]) (λu=>[(i18,.cells false [.int .i64 p.az,.slice ka kn kc])]::[(is,.map (aG jx u.se))]::u.B::[(im,.map (aG jx (dC s.pe k (.slice pa pn pc))))]::[(i10,.cells false [.bool false,.int .i64 g.start,.int .i64 0,.int .i64 w.length])]::[(i8,.cells false [.slice none 0 0,.int .i64 0])]::[(i4,.cells false [.int .i64 g.ae,.int .i64 g.au,.int .i64 g.start,.slice ga gm gc])]::own)
       (λq u G=>dR dB G u.a u.L.length u.c u.B u.L/\HA g w E root u.L u.se/\(∃x,u.L=s.L++x)/\(∀p∈(bU g w E k).take j,∀q∈p.kids,q∈u.L)/\∀x∈p.kids.take q,x∈u.L) kn u
       Z Z Z Z Z Z Z Z Z zo rfl rfl (λ_=>rfl) (λ_=>rfl) sM oR ⟨hb3,hl3,hx3,hc3,by simp⟩ ?_ ?_
      ·intro q z F4 hF4 hq hP4;obtain⟨hb4,hl4,hx4,hc4,hd4⟩:=hP4;have hka4:=hka.mono hF4;have hgz:∀k∈z.L,iw g w k:=λk hk=>(hl4.reach k hk).Gc hg hroot;have hfz:=vG hg hw1 hgz hl4.nd;refine AV ?_;refine WT.bG hT hka4 Z Z Z Z Z Z Z Z Z zo (λx hxq b8 off8 ro8 cs8 lx8 hb8 hp8 hrel8=>?_);obtain rfl:lx8=_:=hrel8;have hxr:cT g w E root x:=.K1 hkr hpm (gM hxq);refine AV ?_;refine WT.aK hT Z Z Z Z Z Z (λi20 hi20=>?_);refine AV ?_;refine WT.jQ jx (key:=x) hT 2 Z Z Z Z Z Z Z me Z Z Z ?_;refine WT.jB (v':=.bool (decide (x∈z.L))) 101 Z ?_ ?_
       ·rw[hl4.seen];by_cases e:x∈z.L<;>simp[e]
       refine AV ?_;refine AW.cond Z (λh4=>?_) (λh4=>?_)
       ·have h4:x∉z.L:=by simpa using h4
        refine AV ?_;refine WT.oh jx (key:=x) hT 2 0 Z Z Z Z Z Z Z Z Z Z Z Z ?_;refine AV ?_;refine WT.be hT Z Z Z Z Z Z Z Z Z Z Z Z Z Z (λi9 hi9=>?_);refine WT.bX (ys:=[x]) hT 4 hb4 Z (λ_=>rfl) Z Z Z Z Z Z Z Z Z Z Z (λh0 s0=>bw hT s0 0 Z Z Z Z) (aH.single (R:=dB) (x:=x) rfl) Z (by decide) kF (λa5 c5 B5 hB5=>?_);refine AV ?_;have hl1:z.L.length+1=(z.L++[x]).length:=by simp
        rw[hl1] at hB5 ⊢;refine⟨⟨z.L++[x],a5,c5,B5,dC z.se x (.bool true)⟩,sM,ah.skip _ (ah.skip _ oR),hB5,hl4.add h4 hxr,?_,λp' hp' q' hq'=>Sw _ (hc4 p' hp' q' hq'),?_⟩
        ·obtain⟨y,hy⟩:=hx4;exact⟨y++[x],by dsimp only;rw[hy,SL]⟩
        ·intro x' hx';rw[RZ,hxq] at hx';rcases R5.1 hx' with hx' | hx'
         ·exact Sw _ (hd4 x' hx')
         ·obtain rfl:=RK.1 hx';exact SC _ (RK.2 rfl)
       ·have h4:x∈z.L:=by simpa using h4
        refine AV ?_;refine⟨z,sM,ah.skip _ oR,hb4,hl4,hx4,hc4,?_⟩;intro x' hx';rw[RZ,hxq] at hx';rcases R5.1 hx' with hx' | hx'
        ·exact hd4 x' hx'
        ·obtain rfl:=RK.1 hx';exact h4
      ·intro z F4 hF4 hP4;obtain⟨hb4,hl4,hx4,hc4,hd4⟩:=hP4;rw[RN zo] at hd4;refine⟨z,sM,dH,hb4,hl4,hx4,?_⟩;rw[RZ,hpj];intro p' hp' q' hq';rcases R5.1 hp' with hp' | hp'
       ·exact hc4 p' hp' q' hq'
       ·obtain rfl:=RK.1 hp';exact hd4 q' hq'
     ·intro u F3 hF3 hP3;obtain⟨hb3,hl3,⟨x3,hx3⟩,hc3⟩:=hP3;rw[RN zo] at hc3;have hpre:∀(j:Nat) (q:Key),s.L[j]?=some q->u.L[j]?=some q:=λj q hq=>by
       rw[hx3,RW (gS hq).1];exact hq
      have hpre2:∀(j:Nat) (q:Key),j<s.i+1->u.L[j]?=some q->s.L[j]?=some q:=λj q hj hq=>by
       rw[hx3,RW zo] at hq;exact hq
      refine AV ?_;refine⟨⟨s.i+1,u.L,u.a,u.c,u.B,dC s.pe k (.slice pa pn pc),u.se,s.sN+pn⟩,?_,sM,ah.refl _,hb3,?_⟩
      ·dsimp only;omega
      ·refine⟨⟨hl3,λj q hj hq=>?_,λj q hj hq=>?_,?_,?_⟩,h3⟩
       ·have hq:=hpre2 j q hj hq;dsimp only;rw[Abs.gf];by_cases e:q=k
        ·subst e;exact⟨pa,pn,pc,by simp,hpk.mono hF3⟩
        ·rw[AT e];rcases Nat.lt_succ_iff_lt_or_eq.1 hj with hj | hj
         ·obtain⟨a9,n9,c9,h9,h10⟩:=hI2.fX j q hj hq;exact⟨a9,n9,c9,h9,h10.mono hF3⟩
         ·subst hj;rw[hk] at hq;exact absurd (BY hq).symm e
       ·have hq:=hpre2 j q hj hq;intro p hp x hx;dsimp only;rcases Nat.lt_succ_iff_lt_or_eq.1 hj with hj | hj
        ·rw[hx3];exact Sw _ (hI.closed j q hj hq p hp x hx)
        ·subst hj;rw[hk] at hq;obtain rfl:=BY hq;exact hc3 p hp x hx
       ·dsimp only;have e:u.L.take (s.i+1)=s.L.take (s.i+1):=by
         rw[hx3,List.take_append_of_le_length zo]
        rw[e,rf hk,<-hI.sN,<-hpkl]
       ·dsimp only;have:=(gS (hpre _ _ hk)).1;omega
   ·have h2:s.i=s.L.length:=by
     have:=hI.le;simp at h2;omega
    refine AW.exit ?_;refine pC ?_;refine WT.cW 1 Tryz.func167 Z Z Z Z Z Z Z (λ_=>rfl) (Bv _ (Av _) hb.vec zo) (λF2 v B2 hF2 hv=>?_);refine WT.ay 1 Z Z (λF3 hF3 hB3=>?_);have hSa:=hv.arr hF3 hB3;obtain⟨hperm,hpw⟩:=we iO s.L;have hF13:=hF2.trans hF3;generalize (Go.Sort.sort iM s.L.toArray).toList=S at hSa hperm hpw;have hSl:S.length=s.L.length:=hperm.length_eq;have hmem:∀k,k∈S↔k∈s.L:=λk=>hperm.mem_iff;have hK:mO g w E root S:=by
     refine⟨?_,λk hk=>hI.l.reach k ((hmem k).1 hk),(hmem _).2 hI.l.first,λk hk p hp q hq=>?_⟩
     ·have hnd:S.Nodup:=hperm.nodup_iff.2 hI.l.nd;have:=hpw.and (SW.1 hnd);refine this.imp ?_;rintro x y ⟨h3,h4⟩;cases h5:iM x y with
      | true=>rfl
      | false=>exact absurd (Ek x y h5 h3) h4
     ·obtain⟨j,hj⟩:=List.mem_iff_getElem?.1 ((hmem k).1 hk);have hjl:=(gS hj).1;exact(hmem q).2 (hI.closed j k zo hj p hp q hq)
    have hpk:∀k∈S,∃a n c,Abs.look s.pe k=some (.slice a n c)/\bj pZ F3 a n c (bU g w E k):=λk hk=>by
     obtain⟨j,hj⟩:=List.mem_iff_getElem?.1 ((hmem k).1 hk);have hjl:=(gS hj).1;obtain⟨a9,n9,c9,h9,h10⟩:=hI.fX j k zo hj;exact⟨a9,n9,c9,h9,h10.mono hF13⟩
    have hsumS:cF g w E S<=most:=by
     have e1:cF g w E S=cF g w E s.L:=(hperm.map _).sum_nat;have e2:=hI.sN;rw[h2,T6] at e2;omega
    refine pC ?_;refine WT.makeMap Z Z Z Z (λinn hinn=>?_);refine pC ?_;refine AW.range (S:=cQ Key) (λ_=>[]) (λne=>[(inn,.map (aG jx ne))]::[(is,.map (aG jx s.se))]::[]::[(im,.map (aG jx s.pe))]::[(i10,.cells false [.bool false,.int .i64 g.start,.int .i64 0,.int .i64 w.length])]::[(i8,.cells false [.slice none 0 0,.int .i64 0])]::[(i4,.cells false [.int .i64 g.ae,.int .i64 g.au,.int .i64 g.start,.slice ga gm gc])]::own)
     (λj ne G=>∀k,Abs.look ne k=if k∈S.take j then some (.int .i64 (place S k:Nat)) else none) s.L.length []
     Z Z Z Z Z Z Z Z Z zo rfl rfl (λ_=>rfl) (λ_=>rfl) sM oR (λk=>by simp[Abs.look]) ?_ ?_
    ·intro j ne F4 hF4 hj hne;have hSa4:=hSa.mono hF4;refine AV ?_;refine WT.bG hT hSa4 Z Z Z Z Z Z Z Z Z zo (λk hkj b8 off8 ro8 cs8 lx8 hb8 hp8 hrel8=>?_);obtain rfl:lx8=_:=hrel8;refine AV ?_;refine WT.aK hT Z Z Z Z Z Z (λi23 hi23=>?_);refine AV ?_;refine WT.oh jx (key:=k) hT 1 0 Z Z Z Z Z Z Z Z Z Z Z Z ?_;refine AV ?_;refine⟨dC ne k (.int .i64 (j:Nat)),sM,ah.skip _ oR,λq=>?_⟩;rw[Abs.gf,hne,RZ,hkj];by_cases e:q=k
     ·subst e;rw[J4 hK.nodup hkj];simp
     ·simp[e]
    ·intro ne F4 hF4 hne;rw[RN zo] at hne;have hSa4:=hSa.mono hF4;have hpk4:∀k∈S,∃a n c,Abs.look s.pe k=some (.slice a n c)/\bj pZ F4 a n c (bU g w E k):=λk hk=>by
      obtain⟨a9,n9,c9,h9,h10⟩:=hpk k hk;exact⟨a9,n9,c9,h9,h10.mono hF4⟩
     refine AV ?_;refine WT.jQ jx (key:=⟨⟨false,g.start⟩,0,w.length⟩) hT 0 Z Z Z Z Z Z Z me Z Z Z ?_;refine WT.jB (v':=.int .i64 (place S root:Nat)) 127 Z (by rw[hrt,hne,By hK.first];rfl) ?_
     refine AV ?_;refine WT.aK hT Z Z Z Z Z Z (λi24 hi24=>?_);refine AV ?_;refine AW.range (S:=KS) (λ_=>[]) (λu=>u.B::[(i24,.cells false [.slice u.a u.n u.c,.int .i64 (place S root:Nat)])]::[(inn,.map (aG jx ne))]::[(is,.map (aG jx s.se))]::[]::[(im,.map (aG jx s.pe))]::[(i10,.cells false [.bool false,.int .i64 g.start,.int .i64 0,.int .i64 w.length])]::[(i8,.cells false [.slice none 0 0,.int .i64 0])]::[(i4,.cells false [.int .i64 g.ae,.int .i64 g.au,.int .i64 g.start,.slice ga gm gc])]::own)
      (λj u G=>dR ke G u.a u.n u.c u.B ((S.take j).map (mkNode g w E S))) s.L.length ⟨none,0,0,[]⟩
      Z Z Z Z Z Z Z Z Z zo rfl rfl (λ_=>rfl) (λ_=>rfl) sM (ah.flat (NO _)) (by simpa using dR.gz _ _) ?_ ?_
     ·intro j u F5 hF5 hj hu;have hSa5:=hSa4.mono hF5;have hul:=hu.len;rw[RL,Sm] at hul;refine Iw ?_;refine WT.bG hT hSa5 Z Z Z Z Z Z Z Z Z zo (λk hkj b8 off8 ro8 cs8 lx8 hb8 hp8 hrel8=>?_);obtain rfl:lx8=_:=hrel8;have hkS:=gM hkj;obtain⟨pa,pn,pc,hlk,hpa⟩:=hpk4 k hkS;have hpa5:=hpa.mono hF5;have hpal:=hpa.len;have hkg:=(hK.reach k hkS).Gc hg hroot;have hpl:=pU hg (E:=E) (w:=w) (show k.to<=12 by have:=hkg.2.2;omega);refine Iw ?_;refine WT.aK hT Z Z Z Z Z Z (λi26 hi26=>?_);refine Iw ?_;refine WT.aK hT Z Z Z Z Z Z (λi27 hi27=>?_)
      refine Iw ?_;refine WT.jQ jx (key:=k) hT 7 Z Z Z Z Z Z Z me Z Z Z ?_;rw[hlk];refine WT.jB (v':=.slice pa pn pc) 144 Z Z ?_;refine Iw ?_
      refine AW.range (S:=KS) (λ_=>[]) (λz=>z.B::[(i27,.cells false [.bool k.sym.term,.int .i64 k.sym.n,.int .i64 k.gW,.int .i64 k.to,.slice z.a z.n z.c])]::[(i26,.cells false [.bool k.sym.term,.int .i64 k.sym.n,.int .i64 k.gW,.int .i64 k.to])]::u.B::[(i24,.cells false [.slice u.a u.n u.c,.int .i64 (place S root:Nat)])]::[(inn,.map (aG jx ne))]::[(is,.map (aG jx s.se))]::[]::[(im,.map (aG jx s.pe))]::[(i10,.cells false [.bool false,.int .i64 g.start,.int .i64 0,.int .i64 w.length])]::[(i8,.cells false [.slice none 0 0,.int .i64 0])]::[(i4,.cells false [.int .i64 g.ae,.int .i64 g.au,.int .i64 g.start,.slice ga gm gc])]::own)
       (λq z G=>dR gQ G z.a z.n z.c z.B (((bU g w E k).take q).map (gH S))) pn ⟨none,0,0,[]⟩
       Z Z Z Z Z Z Z Z Z zo rfl rfl (λ_=>rfl) (λ_=>rfl) sM (ah.flat (NO _)) (by simpa using dR.gz _ _) ?_ ?_
      ·intro q z F6 hF6 hq hz;have hpa6:=hpa5.mono hF6;have hzl:=hz.len;rw[RL,Sm] at hzl;refine Ck ?_;refine WT.bG hT hpa6 Z Z Z Z Z Z Z Z Z zo (λp hpq b9 off9 ro9 cs9 lx9 hb9 hp9 hrel9=>?_);obtain⟨ka,kn,kc,rfl,hka⟩:=hrel9;have hkal:=hka.len;have hpm:=gM hpq;have hkl4:p.kids.length<=4:=by
        obtain⟨r,hr0,_,_,h4⟩:=kR.1 hpm;rw[oy h4];exact(hg.right r (gM hr0)).2.1
       refine Ck ?_;refine WT.aK hT Z Z Z Z Z Z (λi29 hi29=>?_);refine Ck ?_;refine WT.aK hT Z Z Z Z Z Z (λi30 hi30=>?_);refine Ck ?_
       refine AW.range (S:=KS) (λ_=>[]) (λy=>y.B::[(i30,.cells false [.int .i64 p.az,.slice y.a y.n y.c])]::[(i29,.cells false [.int .i64 p.az,.slice ka kn kc])]::z.B::[(i27,.cells false [.bool k.sym.term,.int .i64 k.sym.n,.int .i64 k.gW,.int .i64 k.to,.slice z.a z.n z.c])]::[(i26,.cells false [.bool k.sym.term,.int .i64 k.sym.n,.int .i64 k.gW,.int .i64 k.to])]::u.B::[(i24,.cells false [.slice u.a u.n u.c,.int .i64 (place S root:Nat)])]::[(inn,.map (aG jx ne))]::[(is,.map (aG jx s.se))]::[]::[(im,.map (aG jx s.pe))]::[(i10,.cells false [.bool false,.int .i64 g.start,.int .i64 0,.int .i64 w.length])]::[(i8,.cells false [.slice none 0 0,.int .i64 0])]::[(i4,.cells false [.int .i64 g.ae,.int .i64 g.au,.int .i64 g.start,.slice ga gm gc])]::own)
        (λe y G=>dR dD G y.a y.n y.c y.B ((p.kids.take e).map (place S))) kn ⟨none,0,0,[]⟩
        Z Z Z Z Z Z Z Z Z zo rfl rfl (λ_=>rfl) (λ_=>rfl) sM (ah.flat (NO _)) (by simpa using dR.gz _ _) ?_ ?_
       ·intro e y F7 hF7 he hy;have hka7:=hka.mono hF7;have hyl:=hy.len;rw[RL,Sm] at hyl;refine Ej ?_;refine WT.bG hT hka7 Z Z Z Z Z Z Z Z Z zo (λx hxe b10 off10 ro10 cs10 lx10 hb10 hp10 hrel10=>?_);obtain rfl:lx10=_:=hrel10;have hxS:=hK.closed k hkS p hpm x (gM hxe);refine Ej ?_;refine WT.aK hT Z Z Z Z Z Z (λi32 hi32=>?_);refine Ej ?_;refine AW.draw (ps:=[(1,5)]) Z Z ?_;refine Ej ?_;refine WT.jQ jx (key:=x) hT 9 Z Z Z Z Z Z Z me Z Z Z ?_;refine WT.jB (v':=.int .i64 (place S x:Nat)) 164 Z (by rw[hne,By hxS];rfl) ?_
        refine WT.be hT Z Z Z Z Z Z Z Z Z Z Z Z Z Z (λi9 hi9=>?_);refine WT.bX (ys:=[place S x]) hT 2 hy Z (λ_=>rfl) Z Z Z Z Z Z Z Z Z Z Z (λh0 s0=>bw hT s0 0 Z Z Z Z) (aH.single (R:=dD) (x:=place S x) rfl) Z (by decide) kF (λa5 c5 B5 hB5=>?_);refine Ej ?_;refine⟨oY,?_⟩;refine⟨⟨a5,y.n+1,c5,B5⟩,sM,ah.skip _ (ah.skip _ oR),?_⟩;dsimp only;rw[RZ,hxe,Si];exact hB5
       ·intro y F7 hF7 hy;rw[RN zo] at hy;refine AW.ay 0 Z Z (λF8 hF8 hB8=>?_);have hyk:=hy.frozen hF8 hB8;have hz8:=(hz.mono hF7).mono hF8;refine Ej ?_;refine WT.be hT Z Z Z Z Z Z Z Z Z Z Z Z Z Z (λi9 hi9=>?_);refine WT.bX (ys:=[gH S p]) hT 4 hz8 Z (λ_=>rfl) Z Z Z Z Z Z Z Z Z Z Z (λh0 s0=>bw hT s0 0 Z Z Z Z) (aH.single (R:=gQ) (x:=gH S p) ⟨_,_,_,rfl,hyk,by show (p.kids.map (place S)).length<=_;rw[RL];omega⟩) Z (by decide) kF (λa5 c5 B5 hB5=>?_);refine Ej ?_
        refine⟨⟨a5,z.n+1,c5,B5⟩,sM,ah.skip _ (ah.skip _ (ah.skip _ (ah.skip _ oR))),?_⟩;dsimp only;rw[RZ,hpq,Si];exact hB5
      ·intro z F6 hF6 hz;rw[RN zo] at hz;refine AW.ay 0 Z Z (λF7 hF7 hB7=>?_);have hzk:=hz.frozen hF7 hB7;have hu7:=(hu.mono hF6).mono hF7;have hzl:=hzk.len;rw[RL] at hzl;refine Ck ?_;refine WT.a6 Tryz.func169 Z Z Z Z Z Z (tG _ hzk (Ap hK hkS) zo) (λv hv=>?_);refine Ck ?_;refine WT.be hT Z Z Z Z Z Z Z Z Z Z Z Z Z Z (λi9 hi9=>?_)
       refine WT.bX (ys:=[mkNode g w E S k]) hT 4 hu7 Z (λ_=>rfl) Z Z Z Z Z Z Z Z Z Z Z (λh0 s0=>bw hT s0 0 Z Z Z Z) (aH.single (R:=ke) (x:=mkNode g w E S k) ⟨_,_,_,rfl,hzk⟩) Z (by decide) kF (λa5 c5 B5 hB5=>?_);refine Ck ?_;refine⟨⟨a5,u.n+1,c5,B5⟩,sM,ah.skip _ (ah.skip _ (ah.skip _ (ah.skip _ oR))),?_⟩;dsimp only;rw[RZ,hkj,Si];exact hB5
     ·intro u F5 hF5 hu;rw[RN zo] at hu;refine AW.ay 0 Z Z (λF6 hF6 hB6=>?_);have huk:=hu.frozen hF6 hB6;refine Ck ?_;exact AW.ret ⟨_,[],⟨_,_,⟨_,rfl,λG h0 s0=>br (s0.has (p:=7) rfl me) (bO hT rfl)⟩,⟨_,_,rfl,rfl,rfl⟩,rfl⟩,bY,rfl,.inr ⟨h1,.inl ⟨S,u.a,u.n,u.c,rfl,hK,huk,hsumS⟩⟩⟩
def Mg:List Nat->Nat
 | []=>1
 | a::l=>a*Mg l
def Og(x:Node):Nat:=if x.key.sym.term=true then 1 else 0
def OM(f:Nat->Nat)(p:iK):Nat:=Mg (p.kids.map f)
def FH(Ns:List Node):Nat->Nat->Nat
 | 0,_=>0
 | d+1,v=>match Ns[v]? with
  | some x=>Og x+(x.fX.map (OM (FH Ns d))).sum
  | none=>0
def L4(T:Nat->Nat)(c:Nat):Prop:=∃D,∀d,D<=d->T d=c
def Ph(Ns:List Node)(u v:Nat):Prop:=∃x p,Ns[v]?=some x/\p∈x.fX/\u∈p.kids
inductive Path(Ns:List Node):Nat->Nat->Prop
 | one {v u:Nat}:Ph Ns u v->Path Ns v u
 | step {v u z:Nat}:Path Ns v u->Ph Ns z u->Path Ns v z
theorem Path.trans{Ns:List Node}{a b c:Nat}(h:Path Ns a b)(h2:Path Ns b c):Path Ns a c:=by
 induction h2 with
 | one k=>exact .step h k
 | step _ k ih=>exact .step ih k
def K0(T:Nat->Nat):Prop:=∀B,∃d,B<=T d
section
variable {Ns:List Node}(hpr:∀v,v<Ns.length->∃d,1<=FH Ns d v)(hkid:∀u v,Ph Ns u v->u<Ns.length)
include hpr hkid
omit hkid in
end
def LH:Nat:=1000000000
def CQ(T:Nat->Nat)(c:Int):Prop:=(∃n,L4 T n/\c=(min n LH:Nat))\/(K0 T/\c=-1)
abbrev ci(x:Nat):Value:=.int .i64 (x:Int)
structure MP(F:ar)(i1 i2 i3 i4 is ic cap:Nat)(na:Option Addr)(nn nc:Nat)(root:Int):Prop where
 st:F i1=some (.cells false [.slice (some ⟨is,0,none⟩) nn cap])
 f:F i2=some (.cells false [.slice na nn nc,.int .i64 root])
 ct:F i3=some (.cells false [.slice (some ⟨ic,0,none⟩) nn cap])
 self:F i4=some (.cells false [.func (.func 141) ⟨[]⟩ ⟨[.pointer (some ⟨i1,0,none⟩),.pointer (some ⟨i2,0,none⟩),.pointer (some ⟨i3,0,none⟩),.pointer (some ⟨i4,0,none⟩)]⟩])
theorem MP.mono{F G:ar}{i1 i2 i3 i4 is ic cap:Nat}{na:Option Addr}{nn nc:Nat}{root:Int}(h:MP F i1 i2 i3 i4 is ic cap na nn nc root)(hF:ar.le F G):MP G i1 i2 i3 i4 is ic cap na nn nc root:=
 ⟨hF _ _ h.st,hF _ _ h.f,hF _ _ h.ct,hF _ _ h.self⟩
structure NM(Ns:List Node)(st ct:List Nat):Prop where
 l1:st.length=Ns.length
 l2:ct.length=Ns.length
 zero:∀u:Nat,st[u]?=some 0->ct[u]?=some 0
 done:∀u:Nat,st[u]?=some 2->∃c,L4 (λd=>FH Ns d u) c/\ct[u]?=some (min c LH)
 dI:∀(u x:Nat),st[u]?=some x->x<=2
 Rq:∀(u x:Nat),ct[u]?=some x->x<=LH
structure Pn(Ns:List Node)(st ct st' ct':List Nat)(v:Nat):Prop where
 inv:NM Ns st' ct'
 at_:st'[v]?=some 2
 c6:∀(u x:Nat),st[u]?=some x->x≠0->st'[u]?=some x/\ct'[u]?=ct[u]?
 new:∀u:Nat,st'[u]?=some 1->st[u]?=some 1
 NU:st'.count 0<=st.count 0
structure QZ(Ns:List Node):Prop where
 qL:Ns.length<=1000000
 fX:∀x∈Ns,x.fX.length<=1000000
 K1:∀u v,Ph Ns u v->u<Ns.length
structure Qo(Ns:List Node)(st ct:List Nat)(v:Nat)(s c:List Nat)(val:Nat):Prop where
 inv:NM Ns s c
 at_:s[v]?=some 1
 c6:∀(u y:Nat),st[u]?=some y->y≠0->s[u]?=some y/\c[u]?=ct[u]?
 new:∀u:Nat,s[u]?=some 1->u=v\/st[u]?=some 1
 NU:s.count 0<st.count 0
 val:c[v]?=some (min val LH)
structure Ry where
 st:List Nat
 ct:List Nat
 x:Nat
def Prod(Ns:List Node):Prop:=∀v,v<Ns.length->∃d,1<=FH Ns d v
end Go.Proofs.D