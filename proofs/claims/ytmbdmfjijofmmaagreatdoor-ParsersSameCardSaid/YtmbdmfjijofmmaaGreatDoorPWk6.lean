/-
  Walks: what functions of the program do, over the abstract machine.
-/
import Derived.Test.YtmbdmfjijofmmaaGreatDoorPWk5
set_option linter.unusedVariables false
set_option maxRecDepth 20000
set_option maxHeartbeats 0
open Go Go.Abs Go.Proofs Go.Proofs.D
set_option linter.unusedVariables false
namespace Bd
def kJ(K C H:Nat)(p:Nat->Nat)(z:Nat):Nat:=if z=H then min (min (2 ^ min 4 (p z)) K) C else min (2 ^ min 4 (p z)) K
def mV(K:Nat)(n:Nat):Nat:=min (2 ^ min 4 n-1) (K-1)
def nq(K C H:Nat)(p:Nat->Nat)(z:Nat):Nat:=if z=H then min (mV K (p z)) C else mV K (p z)
def ia(K C H:Nat)(p:Nat->Nat)(b:Nat->Nat->Nat)(x y:Nat):Nat:=min (kJ K C H p y) (2 ^ (p x-b x y+sm λw=>b w x))
def k5(K C H:Nat)(b:Nat->Nat->Nat)(y z:Nat):Nat:=if y=H then min (min (2 ^ min 4 (b y z)) K) C else min (2 ^ min 4 (b y z)) K
def L0(K:Nat)(b t:Nat):Nat:=min (2 ^ min 4 b-2 ^ (min 4 b-min 4 t)) (K-1)
def wR(K C H:Nat)(p:Nat->Nat)(b:Nat->Nat->Nat)(t:Nat->Nat->Nat->Nat)(x y z:Nat):Nat:=
 min (mV K (t x y z)*k5 K C H b y z*kJ K C H p z) (L0 K (b x y) (t x y z)*ia K C H p b x y)
def vX(K C H:Nat)(p:Nat->Nat)(b:Nat->Nat->Nat)(y:Nat):Nat:=nq K C H p y+sm λx=>mV K (b x y)*ia K C H p b x y
def dN(K C H:Nat)(p:Nat->Nat)(b:Nat->Nat->Nat)(t:Nat->Nat->Nat->Nat):Nat:=
 sm (nq K C H p)+sm λy=>sm λz=>min (mV K (b y z)*ia K C H p b y z+sm λx=>wR K C H p b t x y z) (vX K C H p b y)
section
variable {R:List Ru}{s0:Nat}{ws:List (List Nat)}
theorem Eu(R:List Ru)(p:List Nat):2 ^ (Lf R p).length<=2 ^ min 4 (cn R p):=
 RS zo (by have:=di R p;have:=ei R p;omega)
theorem FG:∀l,l<5->∀t,t<5->t<=l->(2 ^ t-1)*2 ^ (l-t)=2 ^ l-2 ^ (l-t):=by decide
theorem FX:∀l t l' t':Fin 5,t.1<=l.1->t'.1<=l'.1->l.1<=l'.1->t.1<=t'.1->2 ^ l.1-2 ^ (l.1-t.1)<=2 ^ l'.1-2 ^ (l'.1-t'.1):=by decide
theorem Ci(l:Nat)(h1:l<5)(t:Nat)(h2:t<5)(l':Nat)(h3:l'<5)(t':Nat)(h4:t'<5)(h5:t<=l)(h6:t'<=l')(h7:l<=l')(h8:t<=t') :
  2 ^ l-2 ^ (l-t)<=2 ^ l'-2 ^ (l'-t'):=FX ⟨l,h1⟩ ⟨t,h2⟩ ⟨l',h3⟩ ⟨t',h4⟩ h5 h6 h7 h8
theorem Le(R:List Ru)(x y:Nat):(xO R x y).length<=cn R [x]-cn R [x,y]:=by
 have h:(xO R x y).length+cn R [x,y]=cn R [x]:=by
  unfold xO cn;rw[Sn,Sn]
  induction R with
  | nil=>simp
  | cons r R ih=>
   simp only[UE];have himp:[x,y].isPrefixOf r.2=true->[x].isPrefixOf r.2=true:=by
    rw[Sr,Sr];exact λh=>(Up [x] [y]).trans h
   cases h1:[x].isPrefixOf r.2<;>cases h2:[x,y].isPrefixOf r.2<;>simp at ih ⊢<;>simp[h1,h2] at himp<;>omega
 omega
theorem Fw(ok:lT R)(x:Nat):(yb R x).length<=sm λw=>cn R [w,x]:=by
 have h:∀(R:List Ru),(∀r∈R,∀s∈r.2,s<7)->(yb R x).length<=sm λw=>cn R [w,x]:=by
  intro R hs;unfold yb
  induction R with
  | nil=>simp
  | cons r R ih=>
   have ih:=ih (λr hr=>hs r (If _ hr));have e:∀w,cn (r::R) [w,x]=cn R [w,x]+if [w,x].isPrefixOf r.2 then 1 else 0:=λw=>by
    unfold cn;rw[Ue]
   simp only[e,qv,UE];split
   ·rename_i h1;rw[Sr] at h1;have:1<=sm λw=>if [w,x].isPrefixOf r.2 then 1 else 0:=by
     obtain⟨l,e2⟩:=h1;cases hr2:r.2 with
     | nil=>rw[hr2] at e2;simp at e2
     | cons w l'=>
      have hw:w<7:=hs r me w (by rw[hr2];exact RR ..);rw[hr2] at e2;simp only[List.tail_cons] at e2;have e3:[w,x].isPrefixOf (w::l')=true:=by
       rw[Sr,<-e2];exact⟨l,rfl⟩
      have:w=0\/w=1\/w=2\/w=3\/w=4\/w=5\/w=6:=by omega
      simp only[sm];rcases this with rfl | rfl | rfl | rfl | rfl | rfl | rfl<;>rw[By e3]<;>omega
    simp only[R4];omega
   ·omega
 exact h R ok.sym
theorem bP.dN(G:bP R s0 ws){M K C:Nat}(hM:M<4)(hK:8+2 ^ (Ot R M).length<=K)(hC:2 ^ (Pr R M).length<=C) :
  ws.length<=dN K C (3+M) (λz=>cn R [z]) (λy z=>cn R [y,z]) (λx y z=>cn R [x,y,z]):=by
 have hl:∀p,∀n∈Lf R p,n<4:=λp n h=>Jj h;have hne:∀p,∀w,Ne R s0 (Lf R p) w->∃n,n<4/\Pd R s0 w n:=λp w ⟨n,h1,h2⟩=>⟨n,Jj h1,h2⟩;have cE:∀(z:Nat) (p:List Nat),kL R s0 (QE R s0 z (Lf R p)) (Lf R p) (mV K (cn R p)):=λz p=>by
  unfold mV;refine kL.inf ((j9 λw h=>h.2).mono ?_) ((uf hM (hl p) λw h=>hne p w h.2).mono zo);have:=Eu R p;omega
 have c1:∀z,kL R s0 (QE R s0 z (Lf R [z])) (Lf R [z]) (nq K C (3+M) (λz=>cn R [z]) z):=λz=>by
  unfold nq;split
  ·rename_i e;subst e;exact kL.inf (cE _ _) ((wW (λw h=>h.1) λn h=>h).mono hC)
  ·exact cE _ _
 have cV:∀z y,kL R s0 (QV R s0 z y) (Lf R [z]) (kJ K C (3+M) (λz=>cn R [z]) z):=λz y=>by
  have h0:kL R s0 (QV R s0 z y) (Lf R [z]) (min (2 ^ min 4 (cn R [z])) K):=
   kL.inf ((rQ _ _).mono (Eu R [z])) ((wz _ hM (hl _)).mono hK)
  unfold kJ;split
  ·rename_i e;subst e;exact kL.inf h0 ((wW (λw h=>h.1) λn h=>h).mono hC)
  ·exact h0
 have cL:∀x y,kL R s0 (QV R s0 y x) (Lf R [y]) (ia K C (3+M) (λz=>cn R [z]) (λy z=>cn R [y,z]) x y):=λx y=>by
  unfold ia;refine kL.inf (cV y x) ((Ip x y _).mono (RS zo ?_));exact RU (Le R x y) (Fw G.ok x)
 have c2:∀y z x,kL R s0 (QV R s0 y x) (Lf R [y,z]) (k5 K C (3+M) (λy z=>cn R [y,z]) y z):=λy z x=>by
  have h0:kL R s0 (QV R s0 y x) (Lf R [y,z]) (min (2 ^ min 4 (cn R [y,z])) K):=
   kL.inf ((rQ _ _).mono (Eu R [y,z])) ((wz _ hM (hl _)).mono hK)
  unfold k5;split
  ·rename_i e;subst e;exact kL.inf h0 ((wW (λw h=>h.1) λn h=>fH (p:=[3+M]) (q:=[z]) h).mono hC)
  ·exact h0
 have cM:∀x y z,kL R s0 (QE R s0 x (Lf R [x,y,z])) (Lf R [x,y]) (L0 K (cn R [x,y]) (cn R [x,y,z])):=λx y z=>by
  unfold L0;refine kL.inf ((wk (dr [x,y,z]) (dr [x,y]) (λn hn=>fH (p:=[x,y]) (q:=[z]) hn) (λw h=>h.2)).mono ?_)
   ((uf hM (hl _) λw h=>hne _ w h.2).mono zo)
  have m:(Lf R [x,y,z]).length<=(Lf R [x,y]).length:=jh R [x,y] [z];have a1:=ei R [x,y];have a2:=di R [x,y];have a3:=di R [x,y,z];have a4:cn R [x,y,z]<=cn R [x,y]:=by
   unfold cn;apply T9;intro r _ h;rw[Sr] at h ⊢;exact(Up [x,y] [z]).trans h
  rw[FG _ zo _ zo m];exact Ci _ zo _ zo _ zo _ zo m zo zo zo
 have h:=pb G.ok G.live;rw[sC] at h;have e3:sm (λx=>sm λy=>sm λz=>(dA R s0 ws [z,y,x]).length)=sm λy=>sm λz=>sm λx=>(dA R s0 ws [z,y,x]).length:=by
  simp only[sm];omega
 rw[e3,<-qv] at h;refine AI h ?_;unfold Bd.dN;refine RU (gv λz _=>G.n1 (c1 z)) (gv λy _=>?_);rw[<-qv];refine gv λz _=>?_;refine Uq.2 ⟨RU (G.n2 (cE y [y,z]) ?_) (gv λx _=>?_),?_⟩
 ·exact cL y z
 ·unfold wR;exact Uq.2 ⟨G.n3 (cE x _) (c2 y z x) (cV z y),G.h3 (cM x y z) (cL x y)⟩
 ·refine AI (Fq G.ok z y) ?_;unfold vX;exact G.types z y (c1 y) (λx _=>cE x _) (λx _=>cL x y)
end
end Bd
set_option linter.unusedVariables false
namespace Bd
def mn(a b:Nat):Nat:=bif Nat.ble a b then a else b
def mx(a b:Nat):Nat:=bif Nat.ble a b then b else a
def k6(k:Nat):Nat:=2 ^ mn 4 k
def E4(k:Nat):Nat:=k6 k-1
def fA(n lump D1 D2 gs g1 g2 d0 d B lz:Nat):Nat:=
 mn (E4 B*k6 (mn lz d)) (1+lump+(E4 (mn B d)*k6 (mn (mn lz d0) (n+gs))+E4 (mn B D1)*k6 (mn (mn lz d0) (n+g1))+E4 (mn B D2)*k6 (mn (mn lz d0) (n+g2))))
def fT(n l d0 bx Bz lz Dx gx t:Nat):Nat:=
 mn (E4 t*k6 (mn Bz Dx)*k6 (mn (mn lz d0) (n+gx))) ((k6 bx-2 ^ (mn 4 bx-mn 4 t))*k6 (mn l Dx))
def HB(f g:Nat->Nat)(k:Nat):Nat->Nat
 | 0=>f 0+g k
 | i+1=>mx (f (i+1)+g (k-(i+1))) (HB f g k i)
def fV(l Vl bs b1 b2 d D1 D2:Nat):Nat:=E4 l+Vl+(E4 bs*k6 (mn l d)+E4 b1*k6 (mn l D1)+E4 b2*k6 (mn l D2))
def fC(bs b1 b2 o1 o2 n l l1 l2 D1 D2 lump Vl kap gs g1 g2 ts t1 t2 d0 d W:Nat):Nat:=
 mn (fA n lump D1 D2 gs g1 g2 d0 d bs l+(fT n l d0 bs bs l d gs ts+fT n l d0 b1 bs l D1 g1 t1+fT n l d0 b2 bs l D2 g2 t2)) (fV l Vl bs b1 b2 d D1 D2)
 + (fA n lump D1 D2 gs g1 g2 d0 d o1 l1+fA n lump D1 D2 gs g1 g2 d0 d o2 l2)
 + (HB (fT n l d0 bs o1 l1 d gs) (fT n l d0 bs o2 l2 d gs) ts ts+HB (fT n l d0 b1 o1 l1 D1 g1) (fT n l d0 b1 o2 l2 D1 g1) t1 t1+HB (fT n l d0 b2 o1 l1 D2 g2) (fT n l d0 b2 o2 l2 D2 g2) t2 t2)
 + W*kap
def fW(n G:Nat):Nat->Nat
 | 0=>0
 | e+1=>2 ^ (mn n (4*(e+1))+G-e)+e-1
def FC(f:Nat->Nat):Nat->Nat
 | 0=>f 0
 | i+1=>mx (f (i+1)) (FC f i)
def fQ(bs b1 b2 o1 o2 n l l1 l2 D1 D2 lump Vl kap r:Nat):Nat:=
 fC bs b1 b2 o1 o2 n l l1 l2 D1 D2 lump Vl kap bs b1 b2 bs b1 b2 (mn 4 (n+(bs+b1+b2))) (mn 4 (mn 4 (n+(bs+b1+b2))+r)) (FC (fW n (bs+b1+b2)) (mn 4 (n+(bs+b1+b2))))
def fF(bs b1 b2 o1 o2 n l l1 l2 D1 D2 lump Vl kap r:Nat):Nat:=
 FC (λgs=>FC (λg1=>FC (λg2=>FC (λd0=>
  fC bs b1 b2 o1 o2 n l l1 l2 D1 D2 lump Vl kap gs g1 g2 (bs-gs) (b1-g1) (b2-g2) d0 (mn 4 (d0+r)) (fW n (gs+g1+g2) d0))
  (mn 4 (n+(gs+g1+g2)))) b2) b1) bs
def x6(n:Nat):Nat:=n*2 ^ (mn 4 n-1)
def fS(F:Nat->Nat->Nat->Nat->Nat->Nat->Nat->Nat->Nat->Nat->Nat->Nat->Nat->Nat->Nat->Nat)(b00 b01 b02 n0 b10 b11 b12 n1 b20 b21 b22 n2 r:Nat):Nat:=
 let l0:=b00+b01+b02+n0;let l1:=b10+b11+b12+n1;let l2:=b20+b21+b22+n2;let D0:=mn 4 (n0+(b00+b10+b20)+r);let D1:=mn 4 (n1+(b11+b01+b21)+r);let D2:=mn 4 (n2+(b22+b02+b12)+r);let nn:=n0+n1+n2;let lump:=2 ^ (nn+2*r)-1;let Vl:=bif Nat.beq r 0 then 0 else mn (2 ^ (nn+r-1)) (16*r);let kap:=bif Nat.beq r 0 then 1 else 2
 F b00 b10 b20 b01 b02 n0 l0 l1 l2 D1 D2 (lump*2 ^ n0) Vl kap r+F b11 b01 b21 b10 b12 n1 l1 l0 l2 D0 D2 (lump*2 ^ n1) Vl kap r+F b22 b02 b12 b20 b21 n2 l2 l0 l1 D0 D1 (lump*2 ^ n2) Vl kap r
def fO(b00 b01 b02 n0 b10 b11 b12 n1 b20 b21 b22 n2 r:Nat):Nat:=
 let nn:=n0+n1+n2;let kap:=bif Nat.beq r 0 then 1 else 2
 E4 (b00+b01+b02+n0)+E4 (b10+b11+b12+n1)+E4 (b20+b21+b22+n2)+r+(x6 n0+x6 n1+x6 n2)*kap
 + (bif Nat.beq r 0 then 0 else mn (2 ^ (nn+r)) (32*r)+4*r)
def PV(b00 b01 b02 n0 b10 b11 b12 n1 b20 b21 b22 n2 r:Nat):Bool:=
 Nat.ble (fO b00 b01 b02 n0 b10 b11 b12 n1 b20 b21 b22 n2 r+fS fQ b00 b01 b02 n0 b10 b11 b12 n1 b20 b21 b22 n2 r) 398 ||
 Nat.ble (fO b00 b01 b02 n0 b10 b11 b12 n1 b20 b21 b22 n2 r+fS fF b00 b01 b02 n0 b10 b11 b12 n1 b20 b21 b22 n2 r) 398
def G9(f:Nat->Bool):Nat->Bool
 | 0=>f 0
 | i+1=>f (i+1)&&G9 f i
def H2(s:Nat)(f:Nat->Nat->Nat->Nat->Bool):Bool:=G9 (λa=>G9 (λb=>G9 (λc=>f a b c (s-a-b-c)) (s-a-b)) (s-a)) s
def vk(s0 s1 s2:Nat):Bool:=H2 s0 λb00 b01 b02 n0=>H2 s1 λb10 b11 b12 n1=>H2 s2 λb20 b21 b22 n2=>
 Nat.beq (n0+n1+n2+(8-s0-s1-s2)) 0||PV b00 b01 b02 n0 b10 b11 b12 n1 b20 b21 b22 n2 (8-s0-s1-s2)
end Bd
set_option linter.unusedVariables false
namespace Bd
def u3(f:Nat->Nat):Nat:=f 0+f 1+f 2
def u4(f:Nat->Nat):Nat:=f 0+f 1+f 2+f 3
theorem nh(f:Nat->Nat):sm f=u3 f+u4 λM=>f (3+M):=by simp only[sm,u3,u4,Nat.reduceAdd];omega
theorem yP{f g:Nat->Nat}(h:∀i,i<3->f i<=g i):u3 f<=u3 g:=by
 have h0:=h 0 zo;have h1:=h 1 zo;have h2:=h 2 zo;simp only[u3];omega
theorem gy{f g:Nat->Nat}(h:∀i,i<4->f i<=g i):u4 f<=u4 g:=by
 have h0:=h 0 zo;have h1:=h 1 zo;have h2:=h 2 zo;have h3:=h 3 zo;simp only[u4];omega
theorem Iq(f g:Nat->Nat):u3 (λi=>f i+g i)=u3 f+u3 g:=by simp only[u3];omega
theorem jG(f g:Nat->Nat):u4 (λi=>f i+g i)=u4 f+u4 g:=by simp only[u4];omega
theorem DL(f:Nat->Nat)(c:Nat):u3 (λi=>f i*c)=u3 f*c:=by simp only[u3,Ss]
theorem qD(f:Nat->Nat)(c:Nat):u4 (λi=>f i*c)=u4 f*c:=by simp only[u4,Ss]
theorem P5(f:Nat->Nat->Nat):u4 (λM=>u3 λx=>f x M)=u3 λx=>u4 λM=>f x M:=by simp only[u3,u4];omega
theorem Qy(f:Nat->Nat->Nat):u4 (λM=>u4 λx=>f x M)=u4 λx=>u4 λM=>f x M:=by simp only[u4];omega
theorem vO(f:Nat->Nat){i:Nat}(h:i<3):f i<=u3 f:=by
 have:i=0\/i=1\/i=2:=by omega
 rcases this with rfl | rfl | rfl<;>simp only[u3]<;>omega
theorem nL(f:Nat->Nat){i:Nat}(h:i<4):f i<=u4 f:=by
 have:i=0\/i=1\/i=2\/i=3:=by omega
 rcases this with rfl | rfl | rfl | rfl<;>simp only[u4]<;>omega
theorem Mc(f:Nat->Nat){i:Nat}(h:i<7):f i<=sm f:=by
 have:i=0\/i=1\/i=2\/i=3\/i=4\/i=5\/i=6:=by omega
 rcases this with rfl | rfl | rfl | rfl | rfl | rfl | rfl<;>simp only[sm]<;>omega
theorem O6(f:Nat->Nat->Nat):sm (λv=>u4 λM=>f v M)=u4 λM=>sm λv=>f v M:=by simp only[sm,u4];omega
theorem dW(a b:Nat):mn a b=min a b:=by
 unfold mn;cases h:Nat.ble a b with
 | true=>have:=S1 h;simp only[RH];omega
 | false=>
  have:¬a<=b:=λh2=>by rw[<-Th] at h2;rw[h2] at h;cases h
  simp only[RO];omega
theorem I9(a b:Nat):mx a b=max a b:=by
 unfold mx;cases h:Nat.ble a b with
 | true=>have:=S1 h;simp only[RH];omega
 | false=>
  have:¬a<=b:=λh2=>by rw[<-Th] at h2;rw[h2] at h;cases h
  simp only[RO];omega
theorem dO{a b:Nat}(h:a<=b):2 ^ a<=2 ^ b:=RS zo h
theorem vy{a b:Nat}(h:a<=b)(h4:a<=4):2 ^ a<=k6 b:=by
 unfold k6;rw[dW];exact dO zo
theorem oD{a b:Nat}(h:a<=b)(h4:a<=4):2 ^ a-1<=E4 b:=by
 unfold E4;have:=vy h h4;omega
theorem jT{a b:Nat}(h:a<=b):k6 a<=k6 b:=by unfold k6;rw[dW,dW];exact dO zo
theorem FW{a b:Nat}(h:a<=b):E4 a<=E4 b:=by unfold E4;have:=jT h;omega
theorem iJ(a:Nat):1<=2 ^ a:=UG zo
theorem Dz{a b:Nat}:2 ^ (a+1)+2 ^ (b+1)<=2 ^ (a+b+1)+2:=by
 have h1:=iJ a;have h2:=iJ b;rw[TG,TG,TG,TI];obtain⟨A,hA⟩:∃A,2 ^ a=A+1:=⟨2 ^ a-1,by omega⟩;obtain⟨B,hB⟩:∃B,2 ^ b=B+1:=⟨2 ^ b-1,by omega⟩;have:(A+1)*(B+1)=A*B+A+B+1:=by rw[Ss,UX];omega
 rw[hA,hB,this];omega
theorem rM{a b:Nat}:(2 ^ a-1)+(2 ^ b-1)<=2 ^ (a+b)-1:=by
 have h1:=iJ a;have h2:=iJ b;rw[TI];obtain⟨A,hA⟩:∃A,2 ^ a=A+1:=⟨2 ^ a-1,by omega⟩;obtain⟨B,hB⟩:∃B,2 ^ b=B+1:=⟨2 ^ b-1,by omega⟩;rw[hA,hB,Ss,UX,Sy,S7];omega
theorem pow_left{a g:Nat}:(2 ^ a-1)*2 ^ g<=2 ^ (a+g)-1:=by
 have h1:=iJ g;rw[Nat.sub_mul,S7,TI];omega
theorem M8(a:Nat->Nat):u4 (λX=>2 ^ a X-1)<=2 ^ u4 a-1:=by
 simp only[u4];have h1:=rM (a:=a 0) (b:=a 1);have h2:=rM (a:=a 0+a 1) (b:=a 2);have h3:=rM (a:=a 0+a 1+a 2) (b:=a 3);omega
theorem Ke:∀(l:List Nat),(l.map λs=>2 ^ s-1).sum+(if (l.countP λs=>0<s)=0 then 0 else 2)<=
  (if (l.countP λs=>0<s)=0 then 0 else 2 ^ (l.sum+1-l.countP λs=>0<s)+l.countP λs=>0<s)/\(l.countP λs=>0<s)<=l.sum:=by
 intro l
 induction l with
 | nil=>simp
 | cons s l ih=>
  obtain⟨ih,hc⟩:=ih;simp only[JN,SG,Ue];cases s with
  | zero=>
   have hp:(if decide (0<0)=true then 1 else 0)=0:=by simp
   rw[hp];simp only[Nat.pow_zero,TW,RY,Tq];exact⟨ih,hc⟩
  | succ s=>
   have hp:(if decide (0<s+1)=true then 1 else 0)=1:=by simp
   rw[hp];refine⟨?_,by omega⟩;rw[AT zo,AT zo];generalize hd:(l.countP λs=>decide (0<s))=d at ih hc ⊢;generalize hk:l.sum=k at ih hc ⊢;cases d with
   | zero=>
    rw[By rfl,By rfl] at ih;have:2 ^ (s+1)<=2 ^ (s+1+k+1-(0+1)):=dO zo;have:=iJ (s+1);omega
   | succ d=>
    rw[AT zo,AT zo] at ih;have h2:=Dz (a:=s) (b:=k-d-1);have e1:k+1-(d+1)=k-d-1+1:=by omega
    have e2:s+1+k+1-(d+1+1)=s+(k-d-1)+1:=by omega
    rw[e1] at ih;rw[e2];have:=iJ (s+1);omega
variable {R:List Ru}
theorem E1(q:Nat->List Nat)(p:Ru->Bool)(h:∀r:Ru,(∀s∈r.2,s<7)->p r=true->∃M,M<4/\(q M).isPrefixOf r.2=true) :
  ∀R:List Ru,(∀r∈R,∀s∈r.2,s<7)->(R.filter p).length<=u4 λM=>cn R (q M):=by
 intro R
 induction R with
 | nil=>intro _;simp[cn,u4]
 | cons r R ih=>
  intro hs;have ih:=ih λr hr=>hs r (If _ hr);have e:∀M,cn (r::R) (q M)=cn R (q M)+if (q M).isPrefixOf r.2 then 1 else 0:=λM=>by
   unfold cn;rw[Ue]
  simp only[e,jG,UE];by_cases hp:p r=true
  ·rw[By hp,R4];obtain⟨M,hM,h1⟩:=h r (hs r me) hp;have:=nL (λM=>if (q M).isPrefixOf r.2 then 1 else 0) hM;simp only[h1,SU] at this;omega
  ·rw[AT hp];omega
theorem Mn{b:Nat}(h:Ew b=true)(h7:b<7):∃M,M<4/\b=3+M:=by
 unfold Ew at h;have:=S1 h;exact⟨b-3,by omega,by omega⟩
theorem ET(ok:lT R)(y:Nat):(GP R y).length<=u4 λM=>cn R [y,3+M]:=by
 refine E1 _ _ (λr hs h=>?_) R ok.sym;rcases hr:r.2 with _ | ⟨a,_ | ⟨b,l⟩⟩<;>simp only[hr] at h<;>try cases h
 simp only[IN,SK] at h;obtain⟨rfl,h⟩:=h;obtain⟨M,h1,rfl⟩:=Mn h (hs b (by rw[hr];simp));exact⟨M,h1,by simp⟩
theorem Du(ok:lT R)(x y:Nat):(Gk R x y).length<=u4 λM=>cn R [x,y,3+M]:=by
 refine E1 _ _ (λr hs h=>?_) R ok.sym;rcases hr:r.2 with _ | ⟨a,_ | ⟨b,_ | ⟨c,l⟩⟩⟩<;>simp only[hr] at h<;>try cases h
 simp only[IN,SK] at h;obtain⟨rfl,rfl,h⟩:=h;obtain⟨M,h1,rfl⟩:=Mn h (hs c (by rw[hr];simp));exact⟨M,h1,by simp⟩
theorem MD(ok:lT R)(y:Nat):(GC R y).length<=sm λv=>cn R [v,y]:=by
 refine AI ?_ (Fw ok y);unfold GC yb;rw[<-Sn,<-Sn];apply T9;intro r _ h;rcases hr:r.2 with _ | ⟨a,_ | ⟨b,_ | ⟨c,l⟩⟩⟩<;>simp only[hr] at h<;>try cases h
 simp only[IN,SK] at h;obtain⟨rfl,_⟩:=h;simp
theorem Od(p:Nat->Bool):((List.range 4).filter p).length=u4 λM=>if p M then 1 else 0:=by
 have:List.range 4=[0,1,2,3]:=rfl;rw[this];simp only[UE,List.filter_nil,u4];cases p 0<;>cases p 1<;>cases p 2<;>cases p 3<;>rfl
theorem qt{p l:List Nat}{r:Ru}(hr:r∈R)(e:r.2=p++l):1<=cn R p:=by
 unfold cn;rw[Nat.succ_le_iff,List.countP_pos_iff];exact⟨r,hr,by rw[e];simp⟩
theorem Ji(R:List Ru)(y:Nat):(Sd R y).length<=4:=by
 have:=TQ (λM=>R.any λr=>Dm y M r||NH y M r) (List.range 4)
 rw[S0] at this;exact this
theorem Lp(R:List Ru)(y:Nat):(lK R y).length<=4:=by
 have:=TQ (λM=>R.any λr=>Dm y M r||tv y M r) (List.range 4)
 rw[S0] at this;exact this
theorem EW{y M:Nat}{r:Ru}(h:Dm y M r=true):∃l,r.2=[y,3+M]++l:=by
 unfold Dm at h;rcases hr:r.2 with _ | ⟨a,_ | ⟨b,l⟩⟩<;>simp only[hr] at h<;>try cases h
 simp only[IN,SK] at h;obtain⟨rfl,rfl⟩:=h;exact⟨l,rfl⟩
theorem Ih{y M:Nat}{r:Ru}(h:NH y M r=true):∃a l,r.2=[a,y,3+M]++l:=by
 unfold NH at h;rcases hr:r.2 with _ | ⟨a,_ | ⟨b,_ | ⟨c,l⟩⟩⟩<;>simp only[hr] at h<;>try cases h
 simp only[IN,SK] at h;obtain⟨rfl,rfl⟩:=h;exact⟨a,l,rfl⟩
theorem E6{y M:Nat}{r:Ru}(h:tv y M r=true):∃a l,a<3/\r.2=[a,y,3+M]++l:=by
 unfold tv at h;rcases hr:r.2 with _ | ⟨a,_ | ⟨b,_ | ⟨c,l⟩⟩⟩<;>simp only[hr] at h<;>try cases h
 simp only[IN,SK,Tu] at h;obtain⟨h0,rfl,rfl⟩:=h;refine⟨a,l,?_,rfl⟩;have:¬3<=a:=λh=>by unfold Ew at h0;rw[<-Th] at h;rw[h] at h0;cases h0
 omega
theorem OZ(ok:lT R){y M:Nat}(h:R.any (λr=>Dm y M r||NH y M r)=true):1<=cn R [y,3+M]+sm λv=>cn R [v,y,3+M]:=by
 rw[Sv] at h;obtain⟨r,hr,h⟩:=h;rw[SZ] at h;rcases h with h | h
 ·obtain⟨l,e⟩:=EW h;have:=qt hr e;omega
 ·obtain⟨a,l,e⟩:=Ih h;have:=qt hr e;have h7:=ok.sym r hr a (by rw[e];simp);have:=Mc (λv=>cn R [v,y,3+M]) h7;omega
theorem JK(ok:lT R)(y:Nat):(Sd R y).length<=u4 (λM=>cn R [y,3+M])+sm λv=>u4 λM=>cn R [v,y,3+M]:=by
 unfold Sd;rw[Od,O6,<-jG];refine gy λM _=>?_;split
 ·rename_i h;exact OZ ok h
 ·omega
theorem Lk(ok:lT R)(y:Nat):(Sd R y).length<=(lK R y).length+u4 λX=>u4 λM=>cn R [3+X,y,3+M]:=by
 unfold Sd lK;rw[Od,Od,<-Qy,<-jG];refine gy λM _=>?_;split
 ·rename_i h;rw[Sv] at h;obtain⟨r,hr,h⟩:=h;rw[SZ] at h;by_cases h0:R.any (λr=>Dm y M r||tv y M r)=true
  ·rw[By h0];omega
  ·have h0':∀r∈R,(Dm y M r||tv y M r)=false:=by
    intro r hr;cases h:(Dm y M r||tv y M r) with
    | false=>rfl
    | true=>exact absurd (Sv.2 ⟨r,hr,h⟩) h0
   have h1:=h0' r hr;rw[TU] at h1;rcases h with h | h
   ·rw[h1.1] at h;cases h
   ·obtain⟨a,l,e⟩:=Ih h;have hg:=h1.2;have h7:=ok.sym r hr a (by rw[e];simp);have h3:3<=a:=by
     apply Classical.byContradiction;intro h3;have:Ew a=false:=by
      unfold Ew;rw[SV];intro k;rw[Th] at k;omega
     unfold tv at hg;rw[e] at hg;simp[this] at hg
    have ea:a=3+(a-3):=by omega
    rw[ea] at e;have:=qt hr e;have h5:=nL (λX=>cn R [3+X,y,3+M]) (show a-3<4 by omega);omega
 ·omega
theorem KW(ok:lT R)(y:Nat):(lK R y).length<=u4 (λM=>cn R [y,3+M])+u3 λv=>u4 λM=>cn R [v,y,3+M]:=by
 unfold lK;rw[Od,<-P5,<-jG];refine gy λM _=>?_;split
 ·rename_i h;rw[Sv] at h;obtain⟨r,hr,h⟩:=h;rw[SZ] at h;rcases h with h | h
  ·obtain⟨l,e⟩:=EW h;have:=qt hr e;omega
  ·obtain⟨a,l,h3,e⟩:=E6 h;have:=qt hr e;have:=vO (λv=>cn R [v,y,3+M]) h3;omega
 ·omega
end Bd
set_option linter.unusedVariables false
namespace Bd
section
variable {R:List Ru}
def nT(R:List Ru)(i:Nat):Nat:=cn R [i]-u3 λj=>cn R [i,j]
def gT(R:List Ru)(x y:Nat):Nat:=u4 λM=>cn R [x,y,3+M]
def rT(R:List Ru):Nat:=8-u3 λi=>cn R [i]
def pg(R:List Ru):Nat:=u3 (nT R)
def DT(R:List Ru)(v:Nat):Nat:=mn 4 (nT R v+u3 (λx=>cn R [x,v])+rT R)
def aT(R:List Ru):Nat:=u4 λX=>u3 λj=>cn R [3+X,j]
def bT(R:List Ru):Nat:=u4 λX=>u4 λM=>cn R [3+X,3+M]
theorem Nw(R:List Ru)(i:Nat):u3 (λj=>cn R [i,j])+u4 (λM=>cn R [i,3+M])<=cn R [i]:=by
 have h:=gB R [i];rw[nh] at h;exact h
theorem OO(R:List Ru)(x y:Nat):u3 (λz=>cn R [x,y,z])+gT R x y<=cn R [x,y]:=by
 have h:=gB R [x,y];rw[nh] at h;exact h
theorem Oc(ok:lT R):u3 (λj=>cn R [j])+u4 (λM=>cn R [3+M])<=8:=by
 have h:=AI (gB R []) (vA ok []);rw[nh] at h;exact h
theorem IJ(R:List Ru)(i:Nat):u3 (λj=>cn R [i,j])+nT R i=cn R [i]:=by
 have:=Nw R i;unfold nT;omega
theorem nC(R:List Ru)(i:Nat):u4 (λM=>cn R [i,3+M])<=nT R i:=by
 have:=Nw R i;unfold nT;omega
theorem NP(ok:lT R):u3 (λi=>cn R [i])+rT R=8:=by
 have:=Oc ok;unfold rT;omega
theorem Cx(ok:lT R):u4 (λM=>cn R [3+M])<=rT R:=by
 have:=Oc ok;unfold rT;omega
theorem J7(ok:lT R):aT R+bT R<=rT R:=by
 refine AI ?_ (Cx ok);unfold aT bT;rw[<-jG];exact gy λX _=>Nw R (3+X)
theorem fy(R:List Ru)(x y:Nat):gT R x y<=cn R [x,y]:=by have:=OO R x y;omega
theorem L6(ok:lT R)(v:Nat)(hv:v<7):u4 (λX=>cn R [3+X,v])<=rT R:=by
 refine AI (gy λX _=>?_) (Cx ok);have h:=gB R [3+X];exact AI (Mc (λv=>cn R [3+X,v]) hv) h
theorem Hi(ok:lT R){v:Nat}(hv:v<7):(Sd R v).length<=DT R v:=by
 have h1:=JK ok v;have h4:=Ji R v;have e:sm (λx=>u4 λM=>cn R [x,v,3+M])<=u3 (λx=>cn R [x,v])+u4 λX=>cn R [3+X,v]:=by
  rw[nh];exact RU (yP λx _=>fy R x v) (gy λX _=>fy R (3+X) v)
 have e2:=L6 ok v hv;have e3:=nC R v;unfold DT;rw[dW];omega
theorem LP(ok:lT R){y:Nat}(hy:y<7):(Sd R y).length<=mn 4 ((lK R y).length+rT R):=by
 have h1:=Lk ok y;have h4:=Ji R y;have e:u4 (λX=>u4 λM=>cn R [3+X,y,3+M])<=u4 λX=>cn R [3+X,y]:=gy λX _=>fy R (3+X) y;have e2:=L6 ok y hy;rw[dW];omega
theorem On(ok:lT R)(y:Nat):(lK R y).length<=min 4 (nT R y+u3 λx=>gT R x y):=by
 have h1:=KW ok y;have h4:=Lp R y;have e3:=nC R y;unfold gT;omega
theorem Lx(ok:lT R){y:Nat}(hy:y<3):u4 (λX=>(Sd R (3+X)).length+(Gk R (3+X) y).length)<=pg R+2*rT R:=by
 have h1:u4 (λX=>(Sd R (3+X)).length)<=bT R+(pg R+bT R):=by
  refine AI (gy λX _=>JK ok (3+X)) ?_;rw[jG];refine RU (AS _) ?_;have e:u4 (λX=>sm λv=>u4 λM=>cn R [v,3+X,3+M])<=u4 (λX=>u3 (λv=>cn R [v,3+X])+u4 λv=>cn R [3+v,3+X]):=by
   refine gy λX _=>?_;rw[nh];exact RU (yP λx _=>fy R x (3+X)) (gy λx _=>fy R (3+x) (3+X))
  refine AI e ?_;rw[jG];refine RU ?_ ?_
  ·rw[P5];exact yP λx _=>nC R x
  ·rw[Qy];exact AS _
 have h2:u4 (λX=>(Gk R (3+X) y).length)<=aT R:=by
  unfold aT;refine gy λX _=>AI (Du ok (3+X) y) (AI (fy R (3+X) y) ?_);exact vO (λj=>cn R [3+X,j]) hy
 have h3:=J7 ok;rw[jG];omega
theorem Mb(ok:lT R){X:Nat}(hX:X<4):(GC R (3+X)).length<=pg R+bT R:=by
 refine AI (MD ok (3+X)) ?_;rw[nh];unfold pg bT;refine RU (yP λv _=>?_) (gy λv _=>?_)
 ·exact AI (nL (λM=>cn R [v,3+M]) hX) (nC R v)
 ·exact nL (λM=>cn R [3+v,3+M]) hX
theorem L8{a b n r:Nat}(h:a+b<=r):a*k6 (n+b)<=(bif Nat.beq r 0 then 0 else mn (2 ^ (n+r-1)) (16*r)):=by
 cases r with
 | zero=>
  have:a=0:=by omega
  subst this;simp
 | succ r=>
  have e:Nat.beq (r+1) 0=false:=rfl;rw[e,RO,dW];refine Uq.2 ⟨?_,?_⟩
  ·cases a with
   | zero=>rw[UN];exact R6 _
   | succ a=>
    have h1:k6 (n+b)<=2 ^ (n+b):=by unfold k6;rw[dW];exact dO zo
    have h2:a+1<=2 ^ a:=Nat.lt_two_pow_self;have h3:2 ^ a*2 ^ (n+b)<=2 ^ (n+(r+1)-1):=by rw[<-TI];exact dO zo
    exact AI (Sl h2 h1) h3
  ·have h1:k6 (n+b)<=16:=by
    have:k6 (n+b)<=2 ^ 4:=by unfold k6;rw[dW];exact dO zo
    simpa using this
   refine AI (Sl (show a<=r+1 by omega) h1) zo
end
end Bd
set_option linter.unusedVariables false
namespace Bd
theorem tt{a b l d:Nat}(h1:a<=l)(h2:b<=d)(h4:a<=4):min (2 ^ a) (2 ^ b)<=k6 (mn l d):=by
 rcases TZ a b with h | h
 ·rw[SN (dO h)];exact vy (by rw[dW];omega) h4
 ·rw[To (dO h)];exact vy (by rw[dW];omega) zo
theorem vn(a b:Nat):min (2 ^ a) (2 ^ b)=2 ^ min a b:=by
 rcases TZ a b with h | h
 ·rw[SN (dO h),SN h]
 ·rw[To (dO h),To h]
theorem IE(a b:Nat):min (2 ^ a-1) (2 ^ b-1)=2 ^ min a b-1:=by
 rcases TZ a b with h | h
 ·have:=dO h;rw[SN zo,SN h]
 ·have:=dO h;rw[To zo,To h]
section
variable {R:List Ru}{s0:Nat}{ws:List (List Nat)}
theorem Q2.ne(ok:lT R){z y:Nat}{u:List Nat}(h:Q2 R s0 z y u):Ne R s0 (Lf R [y,z]) u:=by
 obtain⟨r,hr,⟨l,e⟩,hp⟩:=h;exact⟨r.1,da ok hr (p:=[y,z]) e,hp⟩
theorem Q3.ne(ok:lT R){z y x:Nat}{u:List Nat}(h:Q3 R s0 z y x u):Ne R s0 (Lf R [x,y,z]) u:=by
 obtain⟨r,hr,⟨l,e⟩,hp⟩:=h;exact⟨r.1,da ok hr (p:=[x,y,z]) e,hp⟩
theorem bP.Qh(G:bP R s0 ws){y z z1 z2:Nat}(hy:y<3)(h1:z1<3)(h2:z2<3)(h12:∀f:Nat->Nat,u3 f=f y+f z1+f z2) :
  (dA R s0 ws [z,y]).length<=fA (nT R y) ((2 ^ (pg R+2*rT R)-1)*2 ^ nT R y) (DT R z1) (DT R z2) (gT R y y) (gT R z1 y) (gT R z2 y)
   (lK R y).length (mn 4 ((lK R y).length+rT R)) (cn R [y,z]) (cn R [z]):=by
 have l4:=ei R [y,z];have lc:=di R [y,z];have m4:=ei R [z];have mc:=di R [z];unfold fA;rw[dW (E4 _*_)];refine Uq.2 ⟨?_,?_⟩
 ·refine AI (G.c2 (kH λu h=>h.ne G.ok) (dJ.inf (eE _ _ _) (A5 G.ok _ (λu=>u) y _))) ?_;exact Sl (oD lc l4) (tt mc (LP G.ok zo) m4)
 ·let a:=λv=>(Sd R v).length;let g:=λv=>(GP R y).length+(Gk R v y).length;have hJ:∀v,v<7->dJ R s0 (λt=>Q2 R s0 z y (v::t)) (λt=>y::v::t) (Lf R [z])
    (if v<3 then min (min (2 ^ (Lf R [z]).length) (2 ^ (lK R y).length)) (2 ^ g v) else 2 ^ g v):=λv hv=>by
   split
   ·rename_i h;exact dJ.inf (dJ.inf (eE _ _ _) (E8 G.ok _ (λt=>t) h y _)) (sR _ v y _)
   ·exact sR _ v y _
  have hK:∀v,v<7->dJ R s0 (λt=>Q2 R s0 z y (v::t)) (λt=>v::t) (Lf R [y,z]) (2 ^ min (Lf R [y,z]).length (a v)-1):=λv hv=>by
   rw[<-IE];refine dJ.inf (kH λu h=>h.ne G.ok) (K8 G.ok (λt=>t) v _ λt h=>?_);obtain⟨n,_,hn⟩:=h.ne G.ok;exact⟨n,hn⟩
  refine AI (G.Rf hK hJ) ?_;rw[nh,h12];have hs:∀v,v<3->∀D,a v<=D->(2 ^ min (Lf R [y,z]).length (a v)-1)*(if v<3 then min (min (2 ^ (Lf R [z]).length) (2 ^ (lK R y).length)) (2 ^ g v) else 2 ^ g v)<=
    E4 (mn (cn R [y,z]) D)*k6 (mn (mn (cn R [z]) (lK R y).length) (nT R y+gT R v y)):=λv hv D hD=>by
   rw[By hv];refine Sl (oD (by rw[dW];omega) zo) ?_;rw[vn];refine tt (by rw[dW];omega) ?_ zo;exact RU (AI (ET G.ok y) (nC R y)) (Du G.ok v y)
  have b0:=hs y hy _ (LP G.ok zo);have b1:=hs z1 h1 _ (Hi G.ok zo);have b2:=hs z2 h2 _ (Hi G.ok zo);have b4:u4 (λX=>(2 ^ min (Lf R [y,z]).length (a (3+X))-1)*(if 3+X<3 then min (min (2 ^ (Lf R [z]).length) (2 ^ (lK R y).length)) (2 ^ g (3+X)) else 2 ^ g (3+X)))<=
    (2 ^ (pg R+2*rT R)-1)*2 ^ nT R y:=by
   refine AI (gy (g:=λX=>(2 ^ (a (3+X)+(Gk R (3+X) y).length)-1)*2 ^ nT R y) λX _=>?_) ?_
   ·rw[AT zo];have e:2 ^ g (3+X)=2 ^ (Gk R (3+X) y).length*2 ^ (GP R y).length:=by
     show 2 ^ ((GP R y).length+(Gk R (3+X) y).length)=_;rw[TI,Tj]
    rw[e,<-Ts];refine Sl (AI (OF _ ?_) pow_left) (dO (AI (ET G.ok y) (nC R y)));exact Nat.sub_le_sub_right (dO (Uf _ _)) 1
   ·rw[qD];refine OF _ (AI (M8 _) ?_);exact Nat.sub_le_sub_right (dO (Lx G.ok hy)) 1
  omega
theorem bP.MR(G:bP R s0 ws){x y z:Nat}(hx:x<3)(hy:y<3){D:Nat}(hD:(Sd R x).length<=D) :
  (dA R s0 ws [z,y,x]).length<=fT (nT R y) (cn R [y]) (lK R y).length (cn R [x,y]) (cn R [y,z]) (cn R [z]) D (gT R x y) (cn R [x,y,z]):=by
 have t4:=ei R [x,y,z];have tc:=di R [x,y,z];have b4:=ei R [x,y];have bc:=di R [x,y];have o4:=ei R [y,z];have oc:=di R [y,z];have l4:=ei R [y];have lc:=di R [y];have z4:=ei R [z];have zc:=di R [z];have hm:(Lf R [x,y,z]).length<=(Lf R [x,y]).length:=jh R [x,y] [z];have hcm:cn R [x,y,z]<=cn R [x,y]:=by
  unfold cn;apply T9;intro r _ h;rw[Sr] at h ⊢;exact(Up [x,y] [z]).trans h
 unfold fT;rw[dW (E4 _*_*_)];refine Uq.2 ⟨?_,?_⟩
 ·refine AI (G.c3 (kH λu h=>h.ne G.ok) (dJ.inf (eE _ _ _) (A5 G.ok _ (λu=>u) x _))
   (dJ.inf (dJ.inf (eE _ _ _) (E8 G.ok _ (λt=>t) hx y _)) (sR _ x y _))) ?_
  refine Sl (Sl (oD tc t4) (tt oc hD o4)) ?_;rw[vn];refine tt (by rw[dW];omega) ?_ zo;exact RU (AI (ET G.ok y) (nC R y)) (Du G.ok x y)
 ·refine AI (G.Pg (oU (dr [x,y,z]) (dr [x,y]) (λn hn=>fH (p:=[x,y]) (q:=[z]) hn) λu h=>h.ne G.ok)
   (dJ.inf (eE _ _ _) (A5 G.ok _ (λu=>u) x _))) ?_
  refine Sl ?_ (tt lc hD l4);rw[FG _ zo _ zo hm];unfold k6;rw[dW,dW];exact Ci _ zo _ zo _ zo _ zo hm zo zo zo
theorem Ca(ok:lT R){X:Nat}(h1:(Lf R [3+X]).length<=1){r r':Ru}(hr:r∈R)(hr':r'∈R){l l':List Nat}(e:r.2=(3+X)::l)(e':r'.2=(3+X)::l'):r.1=r'.1:=by
 have m1:=da ok hr (p:=[3+X]) e;have m2:=da ok hr' (p:=[3+X]) e';generalize Lf R [3+X]=L at h1 m1 m2
 match L,h1,m1,m2 with
 | [a],_,m1,m2=>
  rw[RK] at m1 m2;rw[m1,m2]
theorem Mp{y:Nat}{r:Ru}(h:r∈GP R y):r∈R/\∃l,r.2=y::l:=by
 unfold GP at h;rw[RJ] at h;obtain⟨hr,h⟩:=h;refine⟨hr,?_⟩;rcases e:r.2 with _ | ⟨a,_ | ⟨b,l⟩⟩<;>simp only[e] at h<;>try cases h
 simp only[IN,SK] at h;exact⟨b::l,by rw[h.1]⟩
theorem one_pow{l c:Nat}(h:l<=1)(hc:l<=c):2 ^ l-1<=c:=by
 have:l=0\/l=1:=by omega
 rcases this with rfl | rfl
 ·simp
 ·simpa using hc
theorem bP.Pw(G:bP R s0 ws)(hE:∀M,M<4->(Lf R [3+M]).length<=1){y z1 z2:Nat}(z:Nat)(hy:y<3)(h1:z1<3)(h2:z2<3)(h12:∀f:Nat->Nat,u3 f=f y+f z1+f z2) :
  (Ft R s0 ws z y).length<=fV (cn R [y]) (bif Nat.beq (rT R) 0 then 0 else mn (2 ^ (pg R+rT R-1)) (16*rT R)) (cn R [y,y]) (cn R [z1,y]) (cn R [z2,y])
   (mn 4 ((lK R y).length+rT R)) (DT R z1) (DT R z2):=by
 have l4:=ei R [y];have lc:=di R [y];have hB:∀x,x<7->dJ R s0 (Q2 R s0 y x) (λu=>x::u) (Lf R [y]) (if x<3 then min (2 ^ (Lf R [y]).length) (2 ^ (Sd R x).length) else min (2 ^ (Lf R [y]).length) (2 ^ (GC R x).length)):=λx hx=>by
  split
  ·exact dJ.inf (eE _ _ _) (A5 G.ok _ (λu=>u) x _)
  ·rename_i h3;refine dJ.inf (eE _ _ _) (xA (λu hu r hf=>?_) _);obtain⟨r',hr',⟨l,e⟩,hp⟩:=hu;obtain⟨hr,l',e'⟩:=Mp hf;obtain⟨X,rfl⟩:∃X,x=3+X:=⟨x-3,by omega⟩;rw[Ca G.ok (hE X zo) hr hr' e' e];exact hp
 refine AI (G.NC z y (j9 λw h=>h.2) (λx _=>kH λu h=>h.ne G.ok) hB) ?_;unfold fV;rw[nh,h12];have hs:∀x,x<3->∀D,(Sd R x).length<=D->(2 ^ (Lf R [x,y]).length-1)*(if x<3 then min (2 ^ (Lf R [y]).length) (2 ^ (Sd R x).length) else min (2 ^ (Lf R [y]).length) (2 ^ (GC R x).length))<=E4 (cn R [x,y])*k6 (mn (cn R [y]) D):=λx hx D hD=>by
  rw[By hx];exact Sl (oD (di R [x,y]) (ei R [x,y])) (tt lc hD l4)
 have b0:=hs y hy _ (LP G.ok zo);have b1:=hs z1 h1 _ (Hi G.ok zo);have b2:=hs z2 h2 _ (Hi G.ok zo);have b3:u4 (λX=>(2 ^ (Lf R [3+X,y]).length-1)*(if 3+X<3 then min (2 ^ (Lf R [y]).length) (2 ^ (Sd R (3+X)).length) else min (2 ^ (Lf R [y]).length) (2 ^ (GC R (3+X)).length)))<=
   (bif Nat.beq (rT R) 0 then 0 else mn (2 ^ (pg R+rT R-1)) (16*rT R)):=by
  refine AI (gy (g:=λX=>cn R [3+X,y]*k6 (pg R+bT R)) λX hX=>?_) ?_
  ·rw[AT zo];refine Sl (one_pow (AI (jh R [3+X] [y]) (hE X hX)) (di R [3+X,y])) ?_;rw[vn];exact vy (AI (Uf _ _) (Mb G.ok hX)) zo
  ·rw[qD];refine AI (OF _ (gy λX _=>vO (λj=>cn R [3+X,j]) hy)) (L8 (J7 G.ok))
 have:=oD lc l4;omega
theorem bP.PT(G:bP R s0 ws){κ:Nat}(hκ:∀M,M<4->2 ^ (Lf R [3+M]).length<=κ){y:Nat}(hy:y<3) :
  u4 (λM=>(dA R s0 ws [3+M,y]).length+u3 λx=>(dA R s0 ws [3+M,y,x]).length)<=fW (nT R y) (u3 λx=>gT R x y) (lK R y).length*κ:=by
 let s:Nat->Nat:=λM=>(Lf R [y,3+M]).length+u3 λx=>(Lf R [x,y,3+M]).length;have a1:∀M,M<4->(dA R s0 ws [3+M,y]).length+(u3 λx=>(dA R s0 ws [3+M,y,x]).length)<=(2 ^ s M-1)*κ:=λM hM=>by
  have h2:(dA R s0 ws [3+M,y]).length<=(2 ^ (Lf R [y,3+M]).length-1)*κ:=
   G.c2 (kH λu h=>h.ne G.ok) ((eE _ _ _).mono (hκ M hM))
  have h3:∀x,(dA R s0 ws [3+M,y,x]).length<=(2 ^ (Lf R [x,y,3+M]).length-1)*2 ^ (Lf R [y,3+M]).length*κ:=λx=>
   G.c3 (kH λu h=>h.ne G.ok) (eE _ _ _) ((eE _ _ _).mono (hκ M hM))
  refine AI (RU h2 (yP λx _=>h3 x)) ?_;rw[DL,DL,<-Ss];refine OF _ ?_;have e:u3 (λx=>2 ^ (Lf R [x,y,3+M]).length-1)<=2 ^ (u3 λx=>(Lf R [x,y,3+M]).length)-1:=by
   simp only[u3];have h1:=rM (a:=(Lf R [0,y,3+M]).length) (b:=(Lf R [1,y,3+M]).length);have h2:=rM (a:=(Lf R [0,y,3+M]).length+(Lf R [1,y,3+M]).length) (b:=(Lf R [2,y,3+M]).length);omega
  refine AI (SO (OF _ e) _) ?_;show _<=2 ^ ((Lf R [y,3+M]).length+u3 λx=>(Lf R [x,y,3+M]).length)-1;rw[Nat.sub_mul,S7,TI,Tj (2 ^ (Lf R [y,3+M]).length)];have p1:=iJ (Lf R [y,3+M]).length;have p2:1*2 ^ (Lf R [y,3+M]).length<=(2 ^ u3 λx=>(Lf R [x,y,3+M]).length)*2 ^ (Lf R [y,3+M]).length:=OF _ (iJ _);omega
 refine AI (gy a1) ?_;rw[qD];refine OF _ ?_;have hpos:∀M,M<4->(0<s M↔M∈lK R y):=λM hM=>by
  constructor
  ·intro h;have:0<(Lf R [y,3+M]).length\/∃x,x<3/\0<(Lf R [x,y,3+M]).length:=by
    apply Classical.byContradiction;intro hn;have n1:(Lf R [y,3+M]).length=0:=by
     have h:¬0<(Lf R [y,3+M]).length:=λh=>hn (.inl h);omega
    have n2:∀x,x<3->(Lf R [x,y,3+M]).length=0:=λx hx=>by
     have h:¬0<(Lf R [x,y,3+M]).length:=λh=>hn (.inr ⟨x,hx,h⟩);omega
    have e0:=n2 0 zo;have e1:=n2 1 zo;have e2:=n2 2 zo;have:s M=0:=by
     show (Lf R [y,3+M]).length+((Lf R [0,y,3+M]).length+(Lf R [1,y,3+M]).length+(Lf R [2,y,3+M]).length)=0;omega
    omega
   unfold lK;rw[RJ,RQ];refine⟨hM,?_⟩;rw[Sv];rcases this with h | ⟨x,hx,h⟩
   ·obtain⟨n,hn⟩:=Us h;unfold Lf at hn;rw[RJ,Sv] at hn;obtain⟨_,r,hr,e⟩:=hn;simp only[IN,Sr] at e;obtain⟨_,l,e⟩:=e;exact⟨r,hr,by unfold Dm;rw[<-e];simp⟩
   ·obtain⟨n,hn⟩:=Us h;unfold Lf at hn;rw[RJ,Sv] at hn;obtain⟨_,r,hr,e⟩:=hn;simp only[IN,Sr] at e;obtain⟨_,l,e⟩:=e;refine⟨r,hr,?_⟩;have:Ew x=false:=by
     unfold Ew;rw[SV];intro k;rw[Th] at k;omega
    unfold tv;rw[<-e];simp[this]
  ·intro h;unfold lK at h;rw[RJ,Sv] at h;obtain⟨_,r,hr,h⟩:=h;rw[SZ] at h;rcases h with h | h
   ·obtain⟨l,e⟩:=EW h;have:=Ur (da G.ok hr e);show 0<(Lf R [y,3+M]).length+_;omega
   ·obtain⟨a,l,h3,e⟩:=E6 h;have h5:=Ur (da G.ok hr e);have h6:=vO (λx=>(Lf R [x,y,3+M]).length) h3;show 0<_+u3 λx=>(Lf R [x,y,3+M]).length;omega
 have hd:(lK R y).length=([s 0,s 1,s 2,s 3].countP λs=>0<s):=by
  have e:(lK R y).length=u4 λM=>if 0<s M then 1 else 0:=by
   have h:=Od λM=>R.any λr=>Dm y M r||tv y M r
   show ((List.range 4).filter λM=>R.any λr=>Dm y M r||tv y M r).length=_
   rw[h];have e:∀M,M<4->(if R.any (λr=>Dm y M r||tv y M r)=true then 1 else 0)=if 0<s M then 1 else 0:=λM hM=>by
    have:=hpos M hM;unfold lK at this;rw[RJ,RQ] at this;by_cases h:0<s M
    ·rw[By h,By (this.1 h).2]
    ·rw[AT h,AT λk=>h (this.2 ⟨hM,k⟩)]
   simp only[u4];rw[e 0 zo,e 1 zo,e 2 zo,e 3 zo]
  rw[e];simp only[u4,Ue,List.countP_nil,Su];omega
 have hm:=Ke [s 0,s 1,s 2,s 3];rw[<-hd] at hm;simp only[JN,SQ,SG,U5,Tq] at hm;have hsum:u4 s<=mn (nT R y) (4*(lK R y).length)+u3 λx=>gT R x y:=by
  have e:u4 s=u4 (λM=>(Lf R [y,3+M]).length)+u3 λx=>u4 λM=>(Lf R [x,y,3+M]).length:=by
   rw[<-P5,<-jG]
  rw[e,dW];refine RU (Uq.2 ⟨?_,?_⟩) (yP λx _=>gy λM _=>di R _)
  ·exact AI (gy λM _=>di R [y,3+M]) (nC R y)
  ·have h4:∀M,M<4->(Lf R [y,3+M]).length<=4*if 0<s M then 1 else 0:=λM hM=>by
    have:=ei R [y,3+M];by_cases h:0<s M
    ·rw[By h];omega
    ·rw[AT h];have h:¬0<(Lf R [y,3+M]).length+u3 λx=>(Lf R [x,y,3+M]).length:=h;omega
   refine AI (gy h4) ?_;rw[hd];simp only[u4,Ue,List.countP_nil,Su];omega
 have hs4:u4 s=s 0+(s 1+(s 2+s 3)):=by simp only[u4];omega
 have hsp:u4 (λM=>2 ^ s M-1)=2 ^ s 0-1+(2 ^ s 1-1+(2 ^ s 2-1+(2 ^ s 3-1))):=by simp only[u4];omega
 rw[hsp];generalize (lK R y).length=d at hm hsum ⊢;cases d with
 | zero=>
  obtain⟨hm,_⟩:=hm;rw[By rfl,By rfl] at hm;unfold fW;omega
 | succ e=>
  obtain⟨hm,hc⟩:=hm;rw[AT zo,AT zo] at hm;show _<=2 ^ (mn (nT R y) (4*(e+1))+(u3 λx=>gT R x y)-e)+e-1;have:=dO (show s 0+(s 1+(s 2+s 3))+1-(e+1)<=mn (nT R y) (4*(e+1))+(u3 λx=>gT R x y)-e by omega);omega
end
end Bd
set_option linter.unusedVariables false
namespace Bd
theorem vU{f g:Nat->Nat}(hg:∀i j,i<=j->g i<=g j){k i j:Nat}(hk:i+j<=k):∀m,i<=m->f i+g j<=HB f g k m
 | 0,h=>by
  have:i=0:=by omega
  subst this;unfold HB;have:=hg j k zo;omega
 | m+1,h=>by
  unfold HB;rw[I9];by_cases e:i=m+1
  ·subst e;have:=hg j (k-(m+1)) zo;omega
  ·have:=vU (f:=f) hg hk m zo;omega
theorem gI{n l d0 bx Bz lz Dx gx t t':Nat}(h:t<=t'):fT n l d0 bx Bz lz Dx gx t<=fT n l d0 bx Bz lz Dx gx t':=by
 unfold fT;rw[dW (E4 _*_*_),dW (E4 _*_*_)];have h1:=OF (k6 (mn (mn lz d0) (n+gx))) (OF (k6 (mn Bz Dx)) (FW h));have h2:k6 bx-2 ^ (mn 4 bx-mn 4 t)<=k6 bx-2 ^ (mn 4 bx-mn 4 t'):=by
  have:2 ^ (mn 4 bx-mn 4 t')<=2 ^ (mn 4 bx-mn 4 t):=dO (by rw[dW,dW,dW];omega);omega
 have h3:=OF (k6 (mn l Dx)) h2;omega
section
variable {R:List Ru}{s0:Nat}{ws:List (List Nat)}
def IH(R:List Ru):Nat:=2 ^ (pg R+2*rT R)-1
def QB(R:List Ru):Nat:=bif Nat.beq (rT R) 0 then 0 else mn (2 ^ (pg R+rT R-1)) (16*rT R)
def NN(R:List Ru)(κ y z1 z2:Nat):Nat:=
 fC (cn R [y,y]) (cn R [z1,y]) (cn R [z2,y]) (cn R [y,z1]) (cn R [y,z2]) (nT R y) (cn R [y]) (cn R [z1]) (cn R [z2]) (DT R z1) (DT R z2) (IH R*2 ^ nT R y) (QB R) κ
  (gT R y y) (gT R z1 y) (gT R z2 y) (cn R [y,y]-gT R y y) (cn R [z1,y]-gT R z1 y) (cn R [z2,y]-gT R z2 y)
  (lK R y).length (mn 4 ((lK R y).length+rT R)) (fW (nT R y) (gT R y y+gT R z1 y+gT R z2 y) (lK R y).length)
theorem bP.PW(G:bP R s0 ws)(hE:∀M,M<4->(Lf R [3+M]).length<=1){κ:Nat}(hκ:∀M,M<4->2 ^ (Lf R [3+M]).length<=κ)
  {y z1 z2:Nat} (hy:y<3) (h1:z1<3) (h2:z2<3) (h12:∀f:Nat->Nat,u3 f=f y+f z1+f z2) :
  u3 (λz=>(dA R s0 ws [z,y]).length+u3 λx=>(dA R s0 ws [z,y,x]).length)+u4 (λM=>(dA R s0 ws [3+M,y]).length+u3 λx=>(dA R s0 ws [3+M,y,x]).length)
   <=NN R κ y z1 z2:=by
 have hA:=λz=>G.Qh (z:=z) hy h1 h2 h12;have hT0:=λz=>G.MR (z:=z) hy hy (LP G.ok (y:=y) zo);have hT1:=λz=>G.MR (z:=z) h1 hy (Hi G.ok (v:=z1) zo);have hT2:=λz=>G.MR (z:=z) h2 hy (Hi G.ok (v:=z2) zo);have hV:=G.Pw hE y hy h1 h2 h12;have hN:=G.PT hκ hy;have hI:=Fq (R:=R) (s0:=s0) (ws:=ws) G.ok y y;rw[nh,h12] at hI;have hs:∀x,cn R [x,y,y]+cn R [x,y,z1]+cn R [x,y,z2]<=cn R [x,y]-gT R x y:=λx=>by
  have:=OO R x y;rw[h12] at this;omega
 unfold NN fC;rw[dW (fA _ _ _ _ _ _ _ _ _ _ _+_),h12,h12 (λx=>(dA R s0 ws [y,y,x]).length),h12 (λx=>(dA R s0 ws [z1,y,x]).length),h12 (λx=>(dA R s0 ws [z2,y,x]).length)];rw[h12 (λx=>gT R x y)] at hN;have e0:=AI (hT0 y) (gI (show cn R [y,y,y]<=cn R [y,y]-gT R y y by have:=hs y;omega));have e1:=AI (hT1 y) (gI (show cn R [z1,y,y]<=cn R [z1,y]-gT R z1 y by have:=hs z1;omega));have e2:=AI (hT2 y) (gI (show cn R [z2,y,y]<=cn R [z2,y]-gT R z2 y by have:=hs z2;omega))
 have m0:=AI (RU (hT0 z1) (hT0 z2)) (vU (g:=fT _ _ _ _ _ _ _ _) (λi j h=>gI h) (show cn R [y,y,z1]+cn R [y,y,z2]<=cn R [y,y]-gT R y y by have:=hs y;omega) (cn R [y,y]-gT R y y) (by have:=hs y;omega));have m1:=AI (RU (hT1 z1) (hT1 z2)) (vU (g:=fT _ _ _ _ _ _ _ _) (λi j h=>gI h) (show cn R [z1,y,z1]+cn R [z1,y,z2]<=cn R [z1,y]-gT R z1 y by have:=hs z1;omega) (cn R [z1,y]-gT R z1 y) (by have:=hs z1;omega))
 have m2:=AI (RU (hT2 z1) (hT2 z2)) (vU (g:=fT _ _ _ _ _ _ _ _) (λi j h=>gI h) (show cn R [z2,y,z1]+cn R [z2,y,z2]<=cn R [z2,y]-gT R z2 y by have:=hs z2;omega) (cn R [z2,y]-gT R z2 y) (by have:=hs z2;omega));have a0:=hA y;have a1:=hA z1;have a2:=hA z2;have hyy:(dA R s0 ws [y,y]).length+((dA R s0 ws [y,y,y]).length+(dA R s0 ws [y,y,z1]).length+(dA R s0 ws [y,y,z2]).length)<=
   min (fA (nT R y) (IH R*2 ^ nT R y) (DT R z1) (DT R z2) (gT R y y) (gT R z1 y) (gT R z2 y) (lK R y).length (mn 4 ((lK R y).length+rT R)) (cn R [y,y]) (cn R [y]) +
    (fT (nT R y) (cn R [y]) (lK R y).length (cn R [y,y]) (cn R [y,y]) (cn R [y]) (mn 4 ((lK R y).length+rT R)) (gT R y y) (cn R [y,y]-gT R y y) +
     fT (nT R y) (cn R [y]) (lK R y).length (cn R [z1,y]) (cn R [y,y]) (cn R [y]) (DT R z1) (gT R z1 y) (cn R [z1,y]-gT R z1 y) +
     fT (nT R y) (cn R [y]) (lK R y).length (cn R [z2,y]) (cn R [y,y]) (cn R [y]) (DT R z2) (gT R z2 y) (cn R [z2,y]-gT R z2 y)))
   (fV (cn R [y]) (QB R) (cn R [y,y]) (cn R [z1,y]) (cn R [z2,y]) (mn 4 ((lK R y).length+rT R)) (DT R z1) (DT R z2)):=by
  refine Uq.2 ⟨?_,?_⟩
  ·exact RU a0 (RU (RU e0 e1) e2)
  ·refine AI ?_ hV;omega
 have hz:∀z,(dA R s0 ws [z,y]).length<=fA (nT R y) (IH R*2 ^ nT R y) (DT R z1) (DT R z2) (gT R y y) (gT R z1 y) (gT R z2 y) (lK R y).length (mn 4 ((lK R y).length+rT R)) (cn R [y,z]) (cn R [z]):=hA;have b1:=hz z1;have b2:=hz z2;clear hA hT0 hT1 hT2 hV hI hs e0 e1 e2 a0 a1 a2 hz;omega
theorem Jf(G:bP R s0 ws){κ:Nat}(hκ:∀M,M<4->2 ^ (Lf R [3+M]).length<=κ)(x:Nat) :
  u4 (λM=>sm λz=>(dA R s0 ws [z,3+M,x]).length)<=x6 (nT R x)*κ:=by
 have h:∀M,M<4->sm (λz=>(dA R s0 ws [z,3+M,x]).length)<=cn R [x,3+M]*(2 ^ (mn 4 (nT R x)-1)*κ):=λM hM=>by
  have h1:∀z,z<7->(dA R s0 ws [z,3+M,x]).length<=cn R [x,3+M,z]*(2 ^ (mn 4 (nT R x)-1)*κ):=λz _=>by
   refine AI (G.Pg (oU (dr [x,3+M,z]) (dr [x,3+M]) (λn hn=>fH (p:=[x,3+M]) (q:=[z]) hn) λu h=>h.ne G.ok) ((eE _ _ _).mono (hκ M hM))) ?_;rw[<-Ts];refine OF _ ?_;have hm:(Lf R [x,3+M,z]).length<=(Lf R [x,3+M]).length:=jh R [x,3+M] [z];have b4:=ei R [x,3+M];have bc:=di R [x,3+M];have hn:=AI (nL (λM=>cn R [x,3+M]) hM) (nC R x);refine AI (half (Lf R [x,3+M]).length zo (Lf R [x,3+M,z]).length zo hm) ?_;rw[Tj];exact Sl (di R _) (dO (by rw[dW];omega))
  refine AI (gv h1) ?_;rw[j8];exact OF _ (gB R [x,3+M])
 refine AI (gy h) ?_;rw[qD,<-Ts];exact OF _ (OF _ (nC R x))
theorem HH{l m c:Nat}(hl:l<=1)(hm:m<=l)(hc:m<=c):(2 ^ m-1)*2 ^ (l-m)<=c:=by
 have:m=0\/m=1:=by omega
 rcases this with rfl | rfl
 ·simp
 ·have:l=1:=by omega
  subst this;simpa using hc
theorem NK(G:bP R s0 ws)(hE:∀M,M<4->(Lf R [3+M]).length<=1) :
  u4 (λX=>sm (λz=>(dA R s0 ws [z,3+X]).length)+sm λy=>sm λz=>(dA R s0 ws [z,y,3+X]).length)<=
   (bif Nat.beq (rT R) 0 then 0 else mn (2 ^ (pg R+rT R)) (32*rT R)+4*rT R):=by
 let J:Nat->Nat:=λy=>if y<3 then k6 (pg R+bT R) else 2;have hJ:∀X,X<4->∀(Q:List Nat->Prop),(∀u,Q u->∃r∈R,(∃l,r.2=(3+X)::l)/\Pd R s0 u r.1)->∀y,y<7->dJ R s0 Q (λu=>(3+X)::u) (Lf R [y]) (J y):=λX hX Q hQ y hy=>by
  show dJ R s0 Q (λu=>(3+X)::u) (Lf R [y]) (if y<3 then k6 (pg R+bT R) else 2);split
  ·refine(dJ.inf (eE _ _ _) (xA (λu hu r hf=>?_) _)).mono (J:=k6 (pg R+bT R)) ?_
   ·obtain⟨r',hr',⟨l,e⟩,hp⟩:=hQ u hu;obtain⟨hr,l',e'⟩:=Mp hf;rw[Ca G.ok (hE X hX) hr hr' e' e];exact hp
   ·rw[vn];have:=ei R [y];exact vy (AI (Uf _ _) (Mb G.ok hX)) zo
  ·refine(eE _ _ _).mono ?_;have h:=hE (y-3) zo;rw[show 3+(y-3)=y by omega] at h;exact dO h
 have h2:∀X,X<4->∀z,z<7->(dA R s0 ws [z,3+X]).length<=cn R [3+X,z]*J z:=λX hX z hz=>by
  refine AI (G.c2 (kH λu h=>h.ne G.ok) (hJ X hX _ (λu hu=>?_) z hz)) (OF _ ?_)
  ·obtain⟨r,hr,⟨l,e⟩,hp⟩:=hu;exact⟨r,hr,⟨_,e⟩,hp⟩
  ·exact one_pow (AI (jh R [3+X] [z]) (hE X hX)) (di R _)
 have h3:∀X,X<4->∀y,y<7->sm (λz=>(dA R s0 ws [z,y,3+X]).length)<=cn R [3+X,y]*J y:=λX hX y hy=>by
  have h1:∀z,z<7->(dA R s0 ws [z,y,3+X]).length<=cn R [3+X,y,z]*J y:=λz _=>by
   refine AI (G.Pg (oU (dr [3+X,y,z]) (dr [3+X,y]) (λn hn=>fH (p:=[3+X,y]) (q:=[z]) hn) λu h=>h.ne G.ok)
    (hJ X hX _ (λu hu=>?_) y hy)) (OF _ ?_)
   ·obtain⟨r,hr,⟨l,e⟩,hp⟩:=hu;exact⟨r,hr,⟨_,e⟩,hp⟩
   ·exact HH (AI (jh R [3+X] [y]) (hE X hX)) (jh R [3+X,y] [z]) (di R _)
  refine AI (gv h1) ?_;rw[j8];exact OF _ (gB R [3+X,y])
 have h4:∀X,X<4->sm (λz=>(dA R s0 ws [z,3+X]).length)+sm (λy=>sm λz=>(dA R s0 ws [z,y,3+X]).length)<=
   (u3 λy=>cn R [3+X,y])*(2*k6 (pg R+bT R))+(u4 λM=>cn R [3+X,3+M])*4:=λX hX=>by
  have e:∀c,sm (λy=>c y*J y)=u3 c*k6 (pg R+bT R)+u4 (λM=>c (3+M))*2:=λc=>by
   rw[nh,<-DL,<-qD];have e1:u3 (λi=>c i*J i)=u3 λi=>c i*k6 (pg R+bT R):=rfl;have e2:u4 (λM=>c (3+M)*J (3+M))=u4 λM=>c (3+M)*2:=rfl;rw[e1,e2]
  have a:=gv (h2 X hX);have b:=gv (h3 X hX);rw[e λy=>cn R [3+X,y]] at a b;have:(u3 λy=>cn R [3+X,y])*(2*k6 (pg R+bT R))=2*((u3 λy=>cn R [3+X,y])*k6 (pg R+bT R)):=by
   rw[Nat.mul_left_comm]
  omega
 refine AI (gy h4) ?_;rw[jG,qD,qD];show aT R*(2*k6 (pg R+bT R))+bT R*4<=_;have hab:=J7 G.ok;have hl:=L8 (n:=pg R) hab;rw[Nat.mul_left_comm];cases hr:rT R with
 | zero=>
  rw[hr] at hl hab;have e0:Nat.beq 0 0=true:=rfl;rw[e0,RH] at hl ⊢;omega
 | succ r=>
  rw[hr] at hl hab;have e0:Nat.beq (r+1) 0=false:=rfl;rw[e0,RO,dW] at hl ⊢;have e1:2 ^ (pg R+(r+1))=2*2 ^ (pg R+(r+1)-1):=by
   rw[show pg R+(r+1)=pg R+(r+1)-1+1 by omega,TG];simp only[Tz];omega
  omega
theorem bP.NA(G:bP R s0 ws)(hE:∀M,M<4->(Lf R [3+M]).length<=1){κ:Nat}(hκ:∀M,M<4->2 ^ (Lf R [3+M]).length<=κ){a b c:Nat}(ha:a<3)(hb:b<3)(hc:c<3)
  (h0:∀f:Nat->Nat,u3 f=f a+f b+f c) (h1:∀f:Nat->Nat,u3 f=f b+f a+f c) (h2:∀f:Nat->Nat,u3 f=f c+f a+f b) :
  ws.length<=E4 (cn R [a])+E4 (cn R [b])+E4 (cn R [c])+rT R+(x6 (nT R a)+x6 (nT R b)+x6 (nT R c))*κ +
   (bif Nat.beq (rT R) 0 then 0 else mn (2 ^ (pg R+rT R)) (32*rT R)+4*rT R)+(NN R κ a b c+NN R κ b a c+NN R κ c a b):=by
 have h:=pb G.ok G.live;rw[sC] at h;have g1:sm (λz=>(dA R s0 ws [z]).length)<=E4 (cn R [a])+E4 (cn R [b])+E4 (cn R [c])+rT R:=by
  rw[nh,h0];have e:∀z,(dA R s0 ws [z]).length<=2 ^ (Lf R [z]).length-1:=λz=>G.n1 (j9 λw h=>h.2);have ea:=AI (e a) (oD (di R [a]) (ei R [a]));have eb:=AI (e b) (oD (di R [b]) (ei R [b]));have ec:=AI (e c) (oD (di R [c]) (ei R [c]));have e4:u4 (λM=>(dA R s0 ws [3+M]).length)<=rT R:=
   AI (gy λM hM=>AI (e (3+M)) (one_pow (hE M hM) (di R _))) (Cx G.ok)
  omega
 have ka:=G.PW hE hκ ha hb hc h0;have kb:=G.PW hE hκ hb ha hc h1;have kc:=G.PW hE hκ hc ha hb h2;have ra:=Jf G hκ a;have rb:=Jf G hκ b;have rc:=Jf G hκ c;have r5:=NK G hE;have e2:sm (λy=>sm λz=>(dA R s0 ws [z,y]).length) =
   u3 (λy=>u3 (λz=>(dA R s0 ws [z,y]).length)+u4 λM=>(dA R s0 ws [3+M,y]).length)+u4 λX=>sm λz=>(dA R s0 ws [z,3+X]).length:=by
  rw[nh];congr 1;simp only[nh]
 have e3:sm (λx=>sm λy=>sm λz=>(dA R s0 ws [z,y,x]).length) =
   u3 (λx=>u3 (λy=>u3 (λz=>(dA R s0 ws [z,y,x]).length)+u4 λM=>(dA R s0 ws [3+M,y,x]).length)+u4 λM=>sm λz=>(dA R s0 ws [z,3+M,x]).length) +
    u4 λX=>sm λy=>sm λz=>(dA R s0 ws [z,y,3+X]).length:=by
  rw[nh];congr 1;simp only[u3];rw[nh,nh,nh];simp only[nh,u3]
 have e4:u3 (λx=>u3 (λy=>u3 (λz=>(dA R s0 ws [z,y,x]).length)+u4 λM=>(dA R s0 ws [3+M,y,x]).length)+u4 λM=>sm λz=>(dA R s0 ws [z,3+M,x]).length) =
   u3 (λy=>u3 (λz=>u3 λx=>(dA R s0 ws [z,y,x]).length)+u4 λM=>u3 λx=>(dA R s0 ws [3+M,y,x]).length)+u3 λx=>u4 λM=>sm λz=>(dA R s0 ws [z,3+M,x]).length:=by
  rw[Iq];congr 1;simp only[u3,u4];omega
 rw[e2,e3,e4] at h;have e5:∀y,u3 (λz=>(dA R s0 ws [z,y]).length+u3 λx=>(dA R s0 ws [z,y,x]).length)=u3 (λz=>(dA R s0 ws [z,y]).length)+u3 λz=>u3 λx=>(dA R s0 ws [z,y,x]).length:=λy=>Iq _ _;have e6:∀y,u4 (λM=>(dA R s0 ws [3+M,y]).length+u3 λx=>(dA R s0 ws [3+M,y,x]).length)=u4 (λM=>(dA R s0 ws [3+M,y]).length)+u4 λM=>u3 λx=>(dA R s0 ws [3+M,y,x]).length:=λy=>jG _ _;rw[e5,e6] at ka kb kc;rw[jG] at r5;rw[h0 (λy=>u3 (λz=>(dA R s0 ws [z,y]).length)+u4 λM=>(dA R s0 ws [3+M,y]).length),
  h0 (λy=>u3 (λz=>u3 λx=>(dA R s0 ws [z,y,x]).length)+u4 λM=>u3 λx=>(dA R s0 ws [3+M,y,x]).length),
  h0 (λx=>u4 λM=>sm λz=>(dA R s0 ws [z,3+M,x]).length)] at h
 rw[Ss,Ss];clear e2 e3 e4 e5 e6;omega
end
end Bd
namespace Bd
theorem PE:vk 4 0 0=true:=by decide +kernel
theorem PJ:vk 4 1 0=true:=by decide +kernel
theorem PU:vk 4 1 1=true:=by decide +kernel
theorem P1:vk 4 2 0=true:=by decide +kernel
theorem PQ:vk 4 2 1=true:=by decide +kernel
theorem PY:vk 4 2 2=true:=by decide +kernel
theorem Pv:vk 4 3 0=true:=by decide +kernel
theorem Qg:vk 4 3 1=true:=by decide +kernel
theorem P2:vk 4 4 0=true:=by decide +kernel
theorem Pp:vk 5 0 0=true:=by decide +kernel
theorem Ql:vk 5 1 0=true:=by decide +kernel
theorem P4:vk 5 1 1=true:=by decide +kernel
theorem Qa:vk 5 2 0=true:=by decide +kernel
theorem PF:vk 5 2 1=true:=by decide +kernel
theorem Qd:vk 5 3 0=true:=by decide +kernel
theorem Po:vk 6 0 0=true:=by decide +kernel
theorem P7:vk 6 1 0=true:=by decide +kernel
theorem Py:vk 6 1 1=true:=by decide +kernel
theorem PZ:vk 6 2 0=true:=by decide +kernel
theorem P6:vk 7 0 0=true:=by decide +kernel
theorem PB:vk 7 1 0=true:=by decide +kernel
theorem Pq:vk 8 0 0=true:=by decide +kernel
theorem Kv{a b c:Nat}(h4:4<=a)(hc:c<=b)(h8:a+b+c<=8):vk a b c=true:=by
 have ha:a=4\/a=5\/a=6\/a=7\/a=8:=by omega
 have hb:b=0\/b=1\/b=2\/b=3\/b=4:=by omega
 have hc2:c=0\/c=1\/c=2:=by omega
 rcases ha with rfl | rfl | rfl | rfl | rfl<;>rcases hb with rfl | rfl | rfl | rfl | rfl<;>rcases hc2 with rfl | rfl | rfl
 ·exact PE
 ·omega
 ·omega
 ·exact PJ
 ·exact PU
 ·omega
 ·exact P1
 ·exact PQ
 ·exact PY
 ·exact Pv
 ·exact Qg
 ·omega
 ·exact P2
 ·omega
 ·omega
 ·exact Pp
 ·omega
 ·omega
 ·exact Ql
 ·exact P4
 ·omega
 ·exact Qa
 ·exact PF
 ·omega
 ·exact Qd
 ·omega
 ·omega
 ·omega
 ·omega
 ·omega
 ·exact Po
 ·omega
 ·omega
 ·exact P7
 ·exact Py
 ·omega
 ·exact PZ
 ·omega
 ·omega
 ·omega
 ·omega
 ·omega
 ·omega
 ·omega
 ·omega
 ·exact P6
 ·omega
 ·omega
 ·exact PB
 ·omega
 ·omega
 ·omega
 ·omega
 ·omega
 ·omega
 ·omega
 ·omega
 ·omega
 ·omega
 ·omega
 ·exact Pq
 ·omega
 ·omega
 ·omega
 ·omega
 ·omega
 ·omega
 ·omega
 ·omega
 ·omega
 ·omega
 ·omega
 ·omega
 ·omega
 ·omega
end Bd
set_option linter.unusedVariables false
namespace Bd
theorem ew{a b c d:Nat}(h:a<=c)(h2:b<=d):mn a b<=mn c d:=by rw[dW,dW];omega
theorem LM{n lump D1 D2 gs g1 g2 d0 d B lz gs' g1' g2' d0' d':Nat}(hs:gs<=gs')(h1:g1<=g1')(h2:g2<=g2')(h0:d0<=d0')(hd:d<=d') :
  fA n lump D1 D2 gs g1 g2 d0 d B lz<=fA n lump D1 D2 gs' g1' g2' d0' d' B lz:=by
 unfold fA;have e:=ew (AS lz) h0;exact ew (SY _ (jT (ew (AS _) hd)))
  (SO (RU (RU (Sl (FW (ew (AS _) hd)) (jT (ew e (SO hs _))))
   (SY _ (jT (ew e (SO h1 _))))) (SY _ (jT (ew e (SO h2 _))))) _)
theorem xy{n l d0 bx Bz lz D gx d0' D' gx' t:Nat}(h0:d0<=d0')(hD:D<=D')(hg:gx<=gx'):fT n l d0 bx Bz lz D gx t<=fT n l d0' bx Bz lz D' gx' t:=by
 unfold fT;exact ew (Sl (SY _ (jT (ew (AS _) hD))) (jT (ew (ew (AS _) h0) (SO hg _))))
  (SY _ (jT (ew (AS _) hD)))
theorem E5{f g:Nat->Nat}{k X:Nat}:∀m,(∀i,i<=m->f i+g (k-i)<=X)->HB f g k m<=X
 | 0,h=>by unfold HB;have:=h 0 (AS _);simpa using this
 | m+1,h=>by
  unfold HB;rw[I9];have h1:=h (m+1) (AS _);have h2:=E5 (k:=k) m λi hi=>h i zo;omega
theorem wU{f g f' g':Nat->Nat}(hf:∀i,f i<=f' i)(hg:∀i,g i<=g' i)(hm:∀i j,i<=j->g' i<=g' j){k k':Nat}(hk:k<=k'):HB f g k k<=HB f' g' k' k':=
 E5 k λi hi=>AI (RU (hf i) (hg (k-i))) (vU (f:=f') hm (show i+(k-i)<=k' by omega) k' zo)
theorem Lq{l Vl bs b1 b2 d D1 D2 d':Nat}(hd:d<=d'):fV l Vl bs b1 b2 d D1 D2<=fV l Vl bs b1 b2 d' D1 D2:=by
 unfold fV;have:=SY (E4 bs) (jT (ew (AS l) hd));omega
theorem K4{bs b1 b2 o1 o2 n l l1 l2 D1 D2 lump Vl kap gs g1 g2 ts t1 t2 d0 d W gs' g1' g2' ts' t1' t2' d0' d' W':Nat}(hgs:gs<=gs')(hg1:g1<=g1')(hg2:g2<=g2')
  (hts:ts<=ts') (ht1:t1<=t1') (ht2:t2<=t2') (h0:d0<=d0') (hd:d<=d') (hW:W<=W') :
  fC bs b1 b2 o1 o2 n l l1 l2 D1 D2 lump Vl kap gs g1 g2 ts t1 t2 d0 d W<=fC bs b1 b2 o1 o2 n l l1 l2 D1 D2 lump Vl kap gs' g1' g2' ts' t1' t2' d0' d' W':=by
 unfold fC;have a:=λB lz=>LM (n:=n) (lump:=lump) (D1:=D1) (D2:=D2) (B:=B) (lz:=lz) hgs hg1 hg2 h0 hd;have x0:=λBz lz t=>xy (n:=n) (l:=l) (bx:=bs) (Bz:=Bz) (lz:=lz) (t:=t) h0 hd hgs;have x1:=λBz lz t=>xy (n:=n) (l:=l) (bx:=b1) (Bz:=Bz) (lz:=lz) (t:=t) h0 (AS D1) hg1;have x2:=λBz lz t=>xy (n:=n) (l:=l) (bx:=b2) (Bz:=Bz) (lz:=lz) (t:=t) h0 (AS D2) hg2;refine RU (RU (RU (ew (RU (a _ _) (RU (RU ?_ ?_) ?_)) (Lq hd)) (RU (a _ _) (a _ _)))
  (RU (RU ?_ ?_) ?_)) (OF _ hW)
 ·exact AI (x0 _ _ _) (gI hts)
 ·exact AI (x1 _ _ _) (gI ht1)
 ·exact AI (x2 _ _ _) (gI ht2)
 ·exact wU (g':=fT _ _ _ _ _ _ _ _) (λi=>x0 _ _ i) (λi=>x0 _ _ i) (λi j h=>gI h) hts
 ·exact wU (g':=fT _ _ _ _ _ _ _ _) (λi=>x1 _ _ i) (λi=>x1 _ _ i) (λi j h=>gI h) ht1
 ·exact wU (g':=fT _ _ _ _ _ _ _ _) (λi=>x2 _ _ i) (λi=>x2 _ _ i) (λi j h=>gI h) ht2
theorem LQ{n G G':Nat}(h:G<=G'):∀e,fW n G e<=fW n G' e
 | 0=>AS _
 | e+1=>by
  show 2 ^ (mn n (4*(e+1))+G-e)+e-1<=2 ^ (mn n (4*(e+1))+G'-e)+e-1;have:=dO (show mn n (4*(e+1))+G-e<=mn n (4*(e+1))+G'-e by omega);omega
theorem tC{f:Nat->Nat}{i:Nat}:∀{k:Nat},i<=k->f i<=FC f k
 | 0,h=>by
  have:i=0:=by omega
  subst this;exact AS _
 | k+1,h=>by
  unfold FC;rw[I9];by_cases e:i=k+1
  ·subst e;omega
  ·have:=tC (f:=f) (show i<=k by omega);omega
theorem Kk{bs b1 b2 o1 o2 n l l1 l2 D1 D2 lump Vl kap gs g1 g2 d0 r:Nat}(hs:gs<=bs)(h1:g1<=b1)(h2:g2<=b2)(h0:d0<=mn 4 (n+(gs+g1+g2))) :
  fC bs b1 b2 o1 o2 n l l1 l2 D1 D2 lump Vl kap gs g1 g2 (bs-gs) (b1-g1) (b2-g2) d0 (mn 4 (d0+r)) (fW n (gs+g1+g2) d0)<=fQ bs b1 b2 o1 o2 n l l1 l2 D1 D2 lump Vl kap r:=by
 have hd:d0<=mn 4 (n+(bs+b1+b2)):=AI h0 (ew (AS _) zo);unfold fQ;exact K4 hs h1 h2 (Nat.sub_le _ _) (Nat.sub_le _ _) (Nat.sub_le _ _) hd (ew (AS _) (Nat.add_le_add_right hd _))
  (AI (LQ (show gs+g1+g2<=bs+b1+b2 by omega) d0) (tC (f:=fW n (bs+b1+b2)) hd))
theorem Ir{bs b1 b2 o1 o2 n l l1 l2 D1 D2 lump Vl kap gs g1 g2 d0 r:Nat}(hs:gs<=bs)(h1:g1<=b1)(h2:g2<=b2)(h0:d0<=mn 4 (n+(gs+g1+g2))) :
  fC bs b1 b2 o1 o2 n l l1 l2 D1 D2 lump Vl kap gs g1 g2 (bs-gs) (b1-g1) (b2-g2) d0 (mn 4 (d0+r)) (fW n (gs+g1+g2) d0)<=fF bs b1 b2 o1 o2 n l l1 l2 D1 D2 lump Vl kap r:=by
 unfold fF;refine AI ?_ (tC (f:=λgs=>FC (λg1=>FC (λg2=>FC (λd0=>_) _) b2) b1) hs);refine AI ?_ (tC (f:=λg1=>FC (λg2=>FC (λd0=>_) _) b2) h1);refine AI ?_ (tC (f:=λg2=>FC (λd0=>_) _) h2);exact tC (f:=λd0=>fC bs b1 b2 o1 o2 n l l1 l2 D1 D2 lump Vl kap gs g1 g2 (bs-gs) (b1-g1) (b2-g2) d0 (mn 4 (d0+r)) (fW n (gs+g1+g2) d0)) h0
theorem rH{f:Nat->Bool}{i:Nat}:∀{k:Nat},G9 f k=true->i<=k->f i=true
 | 0,h,hi=>by
  have:i=0:=by omega
  subst this;exact h
 | k+1,h,hi=>by
  unfold G9 at h;rw[IN] at h;by_cases e:i=k+1
  ·subst e;exact h.1
  ·exact rH h.2 zo
theorem xq{s:Nat}{f:Nat->Nat->Nat->Nat->Bool}(h:H2 s f=true){a b c d:Nat}(hs:a+b+c+d=s):f a b c d=true:=by
 unfold H2 at h;have h1:=rH h (show a<=s by omega);have h2:=rH h1 (show b<=s-a by omega);have h3:=rH h2 (show c<=s-a-b by omega);have e:s-a-b-c=d:=by omega
 rw[e] at h3;exact h3
section
variable {R:List Ru}{s0:Nat}{ws:List (List Nat)}
theorem MX(ok:lT R)(hE:∀M,M<4->(Lf R [3+M]).length<=1):∀M,M<4->2 ^ (Lf R [3+M]).length<=(bif Nat.beq (rT R) 0 then 1 else 2):=by
 intro M hM;cases hr:rT R with
 | zero=>
  have h:=AI (AI (di R [3+M]) (nL (λM=>cn R [3+M]) hM)) (Cx ok);rw[hr] at h;have:(Lf R [3+M]).length=0:=by omega
  rw[this];exact AS _
 | succ r=>
  have e0:Nat.beq (r+1) 0=false:=rfl;rw[e0,RO];exact dO (hE M hM)
theorem bP.NX(G:bP R s0 ws)(hE:∀M,M<4->(Lf R [3+M]).length<=1){a b c:Nat}(ha:a<3)(hb:b<3)(hc:c<3)
  (h0:∀f:Nat->Nat,u3 f=f a+f b+f c) (h4:4<=cn R [a]) (hbc:cn R [c]<=cn R [b]) (hn:pg R+rT R≠0):ws.length<=398:=by
 have h1:∀f:Nat->Nat,u3 f=f b+f a+f c:=λf=>by rw[h0];omega
 have h2:∀f:Nat->Nat,u3 f=f c+f a+f b:=λf=>by rw[h0];omega
 have hB:=G.NA hE (MX G.ok hE) ha hb hc h0 h1 h2;have r8:=NP G.ok;rw[h0] at r8;have la:=IJ R a;have lb:=IJ R b;have lc:=IJ R c;rw[h0] at la lb lc;have hT:=Kv h4 hbc (show cn R [a]+cn R [b]+cn R [c]<=8 by omega);unfold vk at hT;have e8:8-cn R [a]-cn R [b]-cn R [c]=rT R:=by omega
 rw[e8] at hT;have hT:=xq (xq (xq hT (a:=cn R [a,a]) (b:=cn R [a,b]) (c:=cn R [a,c]) (d:=nT R a) la) (a:=cn R [b,a]) (b:=cn R [b,b]) (c:=cn R [b,c]) (d:=nT R b) lb)
  (a:=cn R [c,a]) (b:=cn R [c,b]) (c:=cn R [c,c]) (d:=nT R c) lc
 have hnn:pg R=nT R a+nT R b+nT R c:=h0 _;rw[<-hnn,SZ] at hT;have hT:PV (cn R [a,a]) (cn R [a,b]) (cn R [a,c]) (nT R a) (cn R [b,a]) (cn R [b,b]) (cn R [b,c]) (nT R b) (cn R [c,a]) (cn R [c,b]) (cn R [c,c]) (nT R c) (rT R)=true:=by
  rcases hT with hT | hT
  ·exact absurd (R8 hT) hn
  ·exact hT
 have hd:=λy=>On G.ok y;have d0:∀y z1 z2,(∀f:Nat->Nat,u3 f=f y+f z1+f z2)->(lK R y).length<=mn 4 (nT R y+(gT R y y+gT R z1 y+gT R z2 y)):=λy z1 z2 hp=>by
  have:=hd y;rw[hp] at this;rw[dW];exact this
 have eD0:DT R a=mn 4 (nT R a+(cn R [a,a]+cn R [b,a]+cn R [c,a])+rT R):=by unfold DT;rw[h0]
 have eD1:DT R b=mn 4 (nT R b+(cn R [b,b]+cn R [a,b]+cn R [c,b])+rT R):=by unfold DT;rw[h1]
 have eD2:DT R c=mn 4 (nT R c+(cn R [c,c]+cn R [a,c]+cn R [b,c])+rT R):=by unfold DT;rw[h2]
 have eO:E4 (cn R [a])+E4 (cn R [b])+E4 (cn R [c])+rT R+(x6 (nT R a)+x6 (nT R b)+x6 (nT R c))*(bif Nat.beq (rT R) 0 then 1 else 2) +
   (bif Nat.beq (rT R) 0 then 0 else mn (2 ^ (pg R+rT R)) (32*rT R)+4*rT R) =
   fO (cn R [a,a]) (cn R [a,b]) (cn R [a,c]) (nT R a) (cn R [b,a]) (cn R [b,b]) (cn R [b,c]) (nT R b) (cn R [c,a]) (cn R [c,b]) (cn R [c,c]) (nT R c) (rT R):=by
  unfold fO;simp only[la,lb,lc,<-hnn]
 rw[eO] at hB;unfold PV at hT;rw[SZ] at hT;rcases hT with hT | hT
 ·have hT:=S1 hT;refine AI hB (AI (SO ?_ _) hT);unfold fS;simp only[la,lb,lc,<-hnn,<-eD0,<-eD1,<-eD2];exact RU (RU (Kk (fy R a a) (fy R b a) (fy R c a) (d0 a b c h0)) (Kk (fy R b b) (fy R a b) (fy R c b) (d0 b a c h1)))
   (Kk (fy R c c) (fy R a c) (fy R b c) (d0 c a b h2))
 ·have hT:=S1 hT;refine AI hB (AI (SO ?_ _) hT);unfold fS;simp only[la,lb,lc,<-hnn,<-eD0,<-eD1,<-eD2];exact RU (RU (Ir (fy R a a) (fy R b a) (fy R c a) (d0 a b c h0)) (Ir (fy R b b) (fy R a b) (fy R c b) (d0 b a c h1)))
   (Ir (fy R c c) (fy R a c) (fy R b c) (d0 c a b h2))
end
end Bd
set_option linter.unusedVariables false
namespace Bd
def sl(L:List Nat)(f:Nat->Nat):Nat:=(L.map f).sum
theorem kC(f:Nat->Nat):sl [] f=0:=rfl
theorem dk(a:Nat)(L:List Nat)(f:Nat->Nat):sl (a::L) f=f a+sl L f:=by simp[sl]
theorem Gu(L M:List Nat)(f:Nat->Nat):sl (L++M) f=sl L f+sl M f:=by simp[sl]
theorem eD{L:List Nat}{f g:Nat->Nat}(h:∀i∈L,f i<=g i):sl L f<=sl L g:=by
 induction L with
 | nil=>simp[sl]
 | cons a L ih=>
  rw[dk,dk];have:=h a me;have:=ih λi hi=>h i (If _ hi);omega
theorem mA(L:List Nat)(f g:Nat->Nat):sl L (λi=>f i+g i)=sl L f+sl L g:=by
 induction L with
 | nil=>rfl
 | cons a L ih=>simp only[dk];omega
theorem iy(L:List Nat)(f:Nat->Nat)(c:Nat):sl L (λi=>f i*c)=sl L f*c:=by
 induction L with
 | nil=>simp[sl]
 | cons a L ih=>simp only[dk,Ss];omega
theorem mG(L M:List Nat)(f:Nat->Nat->Nat):sl L (λx=>sl M λy=>f x y)=sl M λy=>sl L λx=>f x y:=by
 induction L with
 | nil=>
  induction M with
  | nil=>rfl
  | cons a M ih=>simp only[dk,kC] at ih ⊢;omega
 | cons a L ih=>rw[dk,ih];simp only[dk];exact(mA M (λy=>f a y) λy=>sl L λx=>f x y).symm
theorem HO(f:Nat->Nat):sm f=sl (List.range 7) f:=(gN f).symm
def aM(L:List Nat):List Nat:=(List.range 7).filter λz=>z∉L
theorem vw{L:List Nat}(hL:L.Nodup)(h7:∀z∈L,z<7)(f:Nat->Nat):sm f=sl L f+sl (aM L) f:=by
 rw[HO,<-Gu];unfold sl;apply List.Perm.sum_nat;apply List.Perm.map;refine(Tt UA ?_).2 λz=>?_
 ·rw[S5];refine⟨hL,Sx _ UA,λa ha b hb e=>?_⟩;subst e;unfold aM at hb;rw[RJ] at hb;exact absurd ha (by simpa using hb.2)
 ·rw[R5];unfold aM;rw[RJ,RQ];constructor
  ·intro h;by_cases hz:z∈L
   ·exact .inl hz
   ·exact .inr ⟨h,by simpa using hz⟩
  ·rintro(h | h)
   ·exact h7 z h
   ·exact h.1
theorem Jm{F:Nat->Nat}{N:Nat}(h0:F 0=0)(hs:∀x y,x+y<=N->F x+F y<=F (x+y))(L:List Nat)(a:Nat->Nat)(h:sl L a<=N):sl L (λi=>F (a i))<=F (sl L a):=by
 induction L with
 | nil=>rw[kC,kC,h0];exact AS 0
 | cons x L ih=>
  rw[dk] at h;rw[dk,dk];have:=ih zo;have:=hs (a x) (sl L a) zo;omega
theorem MU(L:List Nat)(t b:Nat->Nat):sl L (λz=>(2 ^ t z-1)*2 ^ b z)<=(2 ^ sl L t-1)*2 ^ sl L b:=by
 induction L with
 | nil=>simp[sl]
 | cons x L ih=>
  simp only[dk];refine AI (SO ih _) ?_;generalize sl L t=T;generalize sl L b=B;have p1:0<2 ^ t x:=UG zo;have p2:0<2 ^ T:=UG zo;have p3:0<2 ^ b x:=UG zo;have p4:0<2 ^ B:=UG zo;rw[TI,TI];generalize 2 ^ t x=u at *;generalize 2 ^ T=v at *;generalize 2 ^ b x=c at *;generalize 2 ^ B=d at *;obtain⟨u,rfl⟩:∃k,u=k+1:=⟨u-1,by omega⟩;obtain⟨v,rfl⟩:∃k,v=k+1:=⟨v-1,by omega⟩;obtain⟨c,rfl⟩:∃k,c=k+1:=⟨c-1,by omega⟩;obtain⟨d,rfl⟩:∃k,d=k+1:=⟨d-1,by omega⟩;have e:(u+1)*(v+1)-1=u*v+u+v:=by
   rw[Ss,UX,UX];omega
  rw[e];simp only[Tz];have h1:u*(c+1)<=(u*v+u)*((c+1)*(d+1)):=by
   refine Sl zo ?_;have:(c+1)*1<=(c+1)*(d+1):=SY _ zo;omega
  have h2:v*(d+1)<=v*((c+1)*(d+1)):=by
   refine SY _ ?_;have:1*(d+1)<=(c+1)*(d+1):=OF _ zo;omega
  have h3:(u*v+u+v)*((c+1)*(d+1))=(u*v+u)*((c+1)*(d+1))+v*((c+1)*(d+1)):=Ss _ _ _;omega
end Bd
set_option linter.unusedVariables false
namespace Bd
def Bq(n:Nat):Nat:=[0,1,3,7,11,12,14,18,22].getD n 22
def jm(n:Nat):Nat:=n*2 ^ (min 4 n-1)
theorem J5:∀x y:Fin 9,x.1+y.1<=8->Bq x.1+Bq y.1<=Bq (x.1+y.1):=by decide
theorem LA(x y:Nat)(h:x+y<=8):Bq x+Bq y<=Bq (x+y):=J5 ⟨x,by omega⟩ ⟨y,by omega⟩ h
theorem GH:∀x y:Fin 9,x.1<=y.1->Bq x.1<=Bq y.1:=by decide
theorem Ii{x y:Nat}(h:x<=y)(hy:y<=8):Bq x<=Bq y:=GH ⟨x,by omega⟩ ⟨y,by omega⟩ h
theorem Gz:∀x y:Fin 9,x.1+y.1<=8->jm x.1+jm y.1<=jm (x.1+y.1):=by decide
theorem JP(x y:Nat)(h:x+y<=8):jm x+jm y<=jm (x+y):=Gz ⟨x,by omega⟩ ⟨y,by omega⟩ h
theorem Eb:∀x y:Fin 9,x.1<=y.1->jm x.1<=jm y.1:=by decide
theorem Gh{x y:Nat}(h:x<=y)(hy:y<=8):jm x<=jm y:=Eb ⟨x,by omega⟩ ⟨y,by omega⟩ h
theorem Kw:∀n:Fin 9,min (2 ^ min 4 n.1-1) 11<=Bq n.1:=by decide
theorem Mq{K n:Nat}(hK:K<=12)(h:n<=8):mV K n<=Bq n:=by
 have:=Kw ⟨n,by omega⟩;unfold mV;simp only at this;omega
theorem LO:∀b t:Fin 9,t.1<=b.1->2 ^ min 4 b.1-2 ^ (min 4 b.1-min 4 t.1)<=t.1*2 ^ (min 4 b.1-1):=by decide
theorem Kf{K b t:Nat}(hb:b<=8)(h:t<=b):L0 K b t<=t*2 ^ (min 4 b-1):=by
 have:=LO ⟨b,by omega⟩ ⟨t,by omega⟩ h;unfold L0;simp only at this;omega
theorem JX{K n:Nat}:mV K n<=2 ^ n-1:=by
 unfold mV;have:2 ^ min 4 n<=2 ^ n:=RS zo zo;omega
theorem tu{K n:Nat}(h:n<=1):mV K n<=n:=by
 have:=JX (K:=K) (n:=n);have h2:n=0\/n=1:=by omega
 have e:2 ^ n-1=n:=by rcases h2 with rfl | rfl<;>rfl
 omega
theorem KU{K a b:Nat}(h:a<=b):mV K a<=mV K b:=by
 unfold mV;have:2 ^ min 4 a<=2 ^ min 4 b:=RS zo zo;omega
theorem N6{K b t:Nat}(hb:b<=8)(h:t<=b):L0 K b t<=mV K b:=by
 unfold L0 mV;have:0<2 ^ (min 4 b-min 4 t):=UG zo;omega
section
variable (K C H:Nat)(p:Nat->Nat)(b:Nat->Nat->Nat)(t:Nat->Nat->Nat->Nat)(L:List Nat)
def mY(x:Nat):Nat:=sl (aM L) λw=>b w x
def nY(x:Nat):Nat:=p x-sl L (b x)
def vY(y:Nat):Nat:=nq K C H p y+(sl L (λx=>mV K (b x y)*ia K C H p b x y)+mY b L y*kJ K C H p y)
def zL(lf j:Nat):Nat:=
 sl L (nq K C H p)+j +
 sl L (λy=>
  sl L (λz=>min (mV K (b y z)*ia K C H p b y z+(sl L (λx=>mV K (b x y)*min (k5 K C H b y z*kJ K C H p z) (ia K C H p b x y))
    + mY b L y*min (k5 K C H b y z*kJ K C H p z) (kJ K C H p y))) (vY K C H p b L y))
   + (lf*Bq (nY p b L y)+(sl L (λx=>min (lf*((2 ^ b x y-1)*2 ^ nY p b L y)) (jm (b x y)*ia K C H p b x y))
    + mY b L y*min (lf*2 ^ nY p b L y) (kJ K C H p y)))
   + (lf*jm (nY p b L y)+mY b L y*kJ K C H p y))
 + (j-sl L (mY b L))*(2*lf)
end
section
variable {K C H:Nat}{p:Nat->Nat}{b:Nat->Nat->Nat}{t:Nat->Nat->Nat->Nat}{L:List Nat}{lf:Nat}
structure vl(p:Nat->Nat)(b:Nat->Nat->Nat)(t:Nat->Nat->Nat->Nat)(L:List Nat)(lf:Nat):Prop where
 PG:L.Nodup
 lt:∀z∈L,z<7
 qL:sm p<=8
 row:∀x,sm (b x)<=p x
 ends:∀x y,sm (t x y)<=b x y
 Mm:∀z∈aM L,p z<=1
 lf:∀z∈aM L,2 ^ p z<=lf
theorem DV(f:Nat->Nat)(i:Nat)(h:i<7):f i<=sm f:=by
 have:i=0\/i=1\/i=2\/i=3\/i=4\/i=5\/i=6:=by omega
 unfold sm;rcases this with rfl | rfl | rfl | rfl | rfl | rfl | rfl<;>omega
theorem gG{z:Nat}(h:z∈aM L):z<7:=by
 unfold aM at h;rw[RJ,RQ] at h;exact h.1
theorem MF(z:Nat):kJ K C H p z<=2 ^ p z:=by
 have:2 ^ min 4 (p z)<=2 ^ p z:=RS zo zo;unfold kJ;split<;>omega
theorem FE(y z:Nat):k5 K C H b y z<=2 ^ b y z:=by
 have:2 ^ min 4 (b y z)<=2 ^ b y z:=RS zo zo;unfold k5;split<;>omega
theorem qy(x y:Nat):ia K C H p b x y<=kJ K C H p y:=by unfold ia;omega
theorem NW(z:Nat)(h:p z<=1):nq K C H p z<=p z:=by
 have:=tu (K:=K) h;unfold nq;split<;>omega
variable (c:vl p b t L lf)(hK:K<=12)
include c
theorem vl.p8(x:Nat)(hx:x<7):p x<=8:=AI (DV p x hx) c.qL
theorem vl.b8(x y:Nat)(hx:x<7)(hy:y<7):b x y<=p x:=AI (DV (b x) y hy) (c.row x)
theorem vl.t8(x y z:Nat)(hz:z<7):t x y z<=b x y:=AI (DV (t x y) z hz) (c.ends x y)
theorem vl.ON(z:Nat)(hz:z∈aM L):kJ K C H p z<=lf:=AI (MF z) (c.lf z hz)
theorem vl.GK(f:Nat->Nat):sm f=sl L f+sl (aM L) f:=vw c.PG c.lt f
theorem vl.bn(x:Nat):sl (aM L) (b x)<=nY p b L x:=by
 have:=c.row x;rw[c.GK] at this;unfold nY;omega
theorem vl.Ma(x y z:Nat)(hx:x<7)(hy:y<7)(hz:z<7) :
  wR K C H p b t x y z<=mV K (b x y)*min (k5 K C H b y z*kJ K C H p z) (ia K C H p b x y):=by
 unfold wR;have h8:=AI (c.b8 x y hx hy) (c.p8 x hx);have h1:=KU (K:=K) (c.t8 x y z hz);have h2:=N6 (K:=K) h8 (c.t8 x y z hz);rcases TZ (k5 K C H b y z*kJ K C H p z) (ia K C H p b x y) with e | e
 ·rw[SN e,<-Ts];refine AI (Uj _ _) ?_;rw[Ts,Ts];exact OF _ h1
 ·rw[To e];exact AI (Uf _ _) (OF _ h2)
theorem vl.Ia(x y:Nat)(hx:x<7)(hy:y<7)(Z:List Nat)(hZ:∀z∈Z,z<7)(ht:sl Z (t x y)<=b x y) :
  sl Z (λz=>wR K C H p b t x y z)<=jm (b x y)*ia K C H p b x y:=by
 have h8:=AI (c.b8 x y hx hy) (c.p8 x hx);refine AI (eD (g:=λz=>t x y z*(2 ^ (min 4 (b x y)-1)*ia K C H p b x y)) λz hz=>?_) ?_
 ·unfold wR;refine AI (Uf _ _) ?_;rw[<-Ts];exact OF _ (Kf h8 (c.t8 x y z (hZ z hz)))
 ·rw[iy];unfold jm;rw[Ts];exact OF _ ht
end
end Bd
set_option linter.unusedVariables false
namespace Bd
section
variable {K C H:Nat}{p:Nat->Nat}{b:Nat->Nat->Nat}{t:Nat->Nat->Nat->Nat}{L:List Nat}{lf:Nat}
theorem ot{L:List Nat}(f:Nat->Nat){i:Nat}(h:i∈L):f i<=sl L f:=by
 induction L with
 | nil=>exact absurd h SR
 | cons a L ih=>
  rw[dk];rcases R0.1 h with rfl | h
  ·omega
  ·have:=ih h;omega
variable (c:vl p b t L lf)(hK:K<=12)
include c
theorem vl.rb(x y:Nat)(hx:x∈aM L)(hy:y<7):b x y<=1:=AI (c.b8 x y (gG hx) hy) (c.Mm x hx)
theorem vl.tr(x y:Nat):sl (aM L) (t x y)<=b x y:=by
 have:=c.ends x y;rw[c.GK] at this;omega
theorem vl.n8(y:Nat)(hy:y<7):nY p b L y<=8:=by
 have:=c.p8 y hy;unfold nY;omega
theorem vl.Of(y:Nat)(hy:y<7):vX K C H p b y<=vY K C H p b L y:=by
 unfold vX vY;rw[c.GK];refine SO (SO ?_ _) _;unfold mY;rw[<-iy];exact eD λx hx=>Sl (tu (c.rb x y hx hy)) (qy x y)
theorem vl.cell(y z:Nat)(hy:y<7)(hz:z<7):(sm λx=>wR K C H p b t x y z)<=
  sl L (λx=>mV K (b x y)*min (k5 K C H b y z*kJ K C H p z) (ia K C H p b x y))+mY b L y*min (k5 K C H b y z*kJ K C H p z) (kJ K C H p y):=by
 rw[c.GK];refine RU (eD λx hx=>c.Ma x y z (c.lt x hx) hy hz) ?_;unfold mY;rw[<-iy];refine eD λx hx=>AI (c.Ma x y z (gG hx) hy hz) (Sl (tu (c.rb x y hx hy)) ?_);have:=qy (K:=K) (C:=C) (H:=H) (p:=p) (b:=b) x y;omega
theorem vl.Rh(y:Nat)(hy:y<7):sl (aM L) (λz=>sm λx=>wR K C H p b t x y z)<=
  sl L (λx=>min (lf*((2 ^ b x y-1)*2 ^ nY p b L y)) (jm (b x y)*ia K C H p b x y))+mY b L y*min (lf*2 ^ nY p b L y) (kJ K C H p y):=by
 have e:sl (aM L) (λz=>sm λx=>wR K C H p b t x y z)=sl L (λx=>sl (aM L) λz=>wR K C H p b t x y z)+sl (aM L) (λx=>sl (aM L) λz=>wR K C H p b t x y z):=by
  rw[mG L (aM L),mG (aM L) (aM L),<-mA];congr 1;funext z;exact c.GK _
 rw[e];refine RU (eD λx hx=>Uq.2 ⟨?_,c.Ia x y (c.lt x hx) hy _ (λz hz=>gG hz) (c.tr x y)⟩) ?_
 ·refine AI (eD (g:=λz=>(2 ^ t x y z-1)*2 ^ b y z*lf) λz hz=>?_) ?_
  ·unfold wR;exact AI (Uj _ _) (Sl (Sl JX (FE y z)) (c.ON z hz))
  ·rw[iy,Tj lf];refine OF _ (AI (MU _ _ _) (Sl ?_ (RS zo (c.bn y))));have:2 ^ sl (aM L) (t x y)<=2 ^ b x y:=RS zo (c.tr x y);exact Nat.sub_le_sub_right this 1
 ·unfold mY;rw[<-iy];refine eD λx hx=>?_;have hb:=c.rb x y hx hy;refine AI (eD (g:=λz=>t x y z*min (lf*2 ^ nY p b L y) (kJ K C H p y)) λz hz=>?_) ?_
  ·have ht:=c.t8 x y z (gG hz);unfold wR;have h1:mV K (t x y z)*k5 K C H b y z*kJ K C H p z<=t x y z*(lf*2 ^ nY p b L y):=by
    rw[Ts];refine Sl (tu zo) ?_;rw[Tj lf];exact Sl (AI (FE y z) (RS zo (AI (ot (b y) hz) (c.bn y)))) (c.ON z hz)
   have h2:L0 K (b x y) (t x y z)*ia K C H p b x y<=t x y z*kJ K C H p y:=by
    refine Sl (AI (Kf zo ht) ?_) (qy x y);have:min 4 (b x y)-1=0:=by omega
    rw[this];omega
   rcases TZ (lf*2 ^ nY p b L y) (kJ K C H p y) with e | e
   ·rw[SN e];omega
   ·rw[To e];omega
  ·rw[iy];exact OF _ (c.tr x y)
theorem vl.Qb(hK:K<=12)(y:Nat)(hyL:y∈L):(sm λz=>min (mV K (b y z)*ia K C H p b y z+sm λx=>wR K C H p b t x y z) (vX K C H p b y))<=
  sl L (λz=>min (mV K (b y z)*ia K C H p b y z+(sl L (λx=>mV K (b x y)*min (k5 K C H b y z*kJ K C H p z) (ia K C H p b x y))
    + mY b L y*min (k5 K C H b y z*kJ K C H p z) (kJ K C H p y))) (vY K C H p b L y))
   + (lf*Bq (nY p b L y)+(sl L (λx=>min (lf*((2 ^ b x y-1)*2 ^ nY p b L y)) (jm (b x y)*ia K C H p b x y))
    + mY b L y*min (lf*2 ^ nY p b L y) (kJ K C H p y))):=by
 have hy:=c.lt y hyL;rw[c.GK];refine RU (eD λz hz=>?_) ?_
 ·have h1:=c.cell (K:=K) (C:=C) (H:=H) y z hy (c.lt z hz);have h2:=c.Of (K:=K) (C:=C) (H:=H) y hy;exact Uq.2 ⟨AI (Uj _ _) (SO h1 _),AI (Uf _ _) h2⟩
 ·refine AI (eD (g:=λz=>mV K (b y z)*ia K C H p b y z+sm λx=>wR K C H p b t x y z) λz _=>Uj _ _) ?_;rw[mA];refine RU ?_ (c.Rh y hy);have h8:=c.n8 y hy;refine AI (eD (g:=λz=>Bq (b y z)*lf) λz hz=>?_) ?_
  ·refine Sl (Mq hK ?_) (AI (qy y z) (c.ON z hz));exact AI (ot (b y) hz) (AI (c.bn y) h8)
  ·rw[iy,Tj lf];refine OF _ (AI (Jm (F:=Bq) (N:=8) rfl LA _ _ (AI (c.bn y) h8)) (Ii (c.bn y) h8))
theorem vl.Mh:sl (aM L) (λy=>sl (aM L) λz=>b y z)<=sl (aM L) p-sl L (mY b L):=by
 have h:sl (aM L) (λy=>sm (b y))<=sl (aM L) p:=eD λy _=>c.row y;have e:sl (aM L) (λy=>sm (b y))=sl L (mY b L)+sl (aM L) (λy=>sl (aM L) λz=>b y z):=by
  have:(λy=>sm (b y))=λy=>sl L (λz=>b y z)+sl (aM L) λz=>b y z:=by funext y;exact c.GK _
  rw[this,mA,mG];rfl
 omega
theorem vl.xO:sl (aM L) (λy=>sm λz=>min (mV K (b y z)*ia K C H p b y z+sm λx=>wR K C H p b t x y z) (vX K C H p b y))<=
  sl L (λx=>lf*jm (nY p b L x)+mY b L x*kJ K C H p x)+(sl (aM L) p-sl L (mY b L))*(2*lf):=by
 have hA:sl (aM L) (λy=>sm λz=>mV K (b y z)*ia K C H p b y z)<=sl L (λz=>mY b L z*kJ K C H p z)+sl (aM L) (λy=>sl (aM L) λz=>b y z)*lf:=by
  refine AI (eD (g:=λy=>sl L (λz=>b y z*kJ K C H p z)+(sl (aM L) λz=>b y z)*lf) λy hy=>?_) ?_
  ·rw[c.GK];refine RU (eD λz hz=>Sl (tu (c.rb y z hy (c.lt z hz))) (qy y z)) ?_;rw[<-iy];exact eD λz hz=>Sl (tu (c.rb y z hy (gG hz))) (AI (qy y z) (c.ON z hz))
  ·rw[mA,iy,mG];refine Nat.add_le_add_right (eD λz _=>?_) _;unfold mY;rw[iy];exact AS _
 have hB:sl (aM L) (λy=>sm λz=>sm λx=>wR K C H p b t x y z)<=sl L (λx=>lf*jm (nY p b L x))+sl (aM L) (λy=>sl (aM L) λz=>b y z)*lf:=by
  have hs:∀x y,x<7->y∈aM L->(sm λz=>wR K C H p b t x y z)<=jm (b x y)*lf:=λx y hx hy=>by
   rw[HO];refine AI (c.Ia x y hx (gG hy) _ (λz hz=>RQ.1 hz) ?_) (SY _ (AI (qy x y) (c.ON y hy)));have:=c.ends x y;rw[HO] at this;exact this
  refine AI (eD (g:=λy=>sl L (λx=>jm (b x y)*lf)+sl (aM L) λx=>b x y*lf) λy hy=>?_) ?_
  ·have e:(sm λz=>sm λx=>wR K C H p b t x y z)=sm λx=>sm λz=>wR K C H p b t x y z:=by simp only[sm];omega
   rw[e,c.GK];refine RU (eD λx hx=>hs x y (c.lt x hx) hy) (eD λx hx=>AI (hs x y (gG hx) hy) (OF _ ?_));have h1:=c.rb x y hx (gG hy);have h2:b x y=0\/b x y=1:=by omega
   rcases h2 with h2 | h2<;>rw[h2]<;>decide
  ·rw[mA];refine RU ?_ ?_
   ·rw[mG];refine eD λx hx=>?_;have h8:=c.n8 x (c.lt x hx);rw[iy,Tj lf];exact OF _ (AI (Jm (F:=jm) (N:=8) rfl JP _ _ (AI (c.bn x) h8)) (Gh (c.bn x) h8))
   ·rw[mG];simp only[iy];exact AS _
 have hW:=c.Mh;have hS:sl (aM L) (λy=>sm λz=>min (mV K (b y z)*ia K C H p b y z+sm λx=>wR K C H p b t x y z) (vX K C H p b y))<=
   sl (aM L) (λy=>sm λz=>mV K (b y z)*ia K C H p b y z)+sl (aM L) (λy=>sm λz=>sm λx=>wR K C H p b t x y z):=by
  rw[<-mA];refine eD λy _=>?_;rw[<-qv];exact gv λz _=>Uj _ _
 have hW2:=OF (2*lf) hW;rw[mA];have e2:sl (aM L) (λy=>sl (aM L) λz=>b y z)*(2*lf)=sl (aM L) (λy=>sl (aM L) λz=>b y z)*lf+sl (aM L) (λy=>sl (aM L) λz=>b y z)*lf:=by
  rw[<-UX];congr 1;omega
 omega
theorem vl.GU(hK:K<=12):dN K C H p b t<=zL K C H p b L lf (sl (aM L) p):=by
 unfold dN zL;have h1:sm (nq K C H p)<=sl L (nq K C H p)+sl (aM L) p:=by
  rw[c.GK];exact SO (eD λz hz=>NW z (c.Mm z hz)) _
 rw[c.GK (λy=>sm λz=>_)];have h2:=eD λy hy=>c.Qb (K:=K) (C:=C) (H:=H) hK y hy;have h3:=c.xO (K:=K) (C:=C) (H:=H);rw[mA L (λy=>_+_) (λy=>lf*jm (nY p b L y)+mY b L y*kJ K C H p y)];omega
end
end Bd
set_option linter.unusedVariables false
namespace Bd
section
variable (K C H:Nat)(p:Nat->Nat)(b:Nat->Nat->Nat)(m n:Nat->Nat)(L:List Nat)
def tp(x y:Nat):Nat:=min (kJ K C H p y) (2 ^ (p x-b x y+(sl L (λw=>b w x)+m x)))
def vZ(y:Nat):Nat:=nq K C H p y+(sl L (λx=>mV K (b x y)*tp K C H p b m L x y)+m y*kJ K C H p y)
def sU(lf j:Nat):Nat:=
 sl L (nq K C H p)+j +
 sl L (λy=>
  sl L (λz=>min (mV K (b y z)*tp K C H p b m L y z+(sl L (λx=>mV K (b x y)*min (k5 K C H b y z*kJ K C H p z) (tp K C H p b m L x y))
    + m y*min (k5 K C H b y z*kJ K C H p z) (kJ K C H p y))) (vZ K C H p b m L y))
   + (lf*Bq (n y)+(sl L (λx=>min (lf*((2 ^ b x y-1)*2 ^ n y)) (jm (b x y)*tp K C H p b m L x y))
    + m y*min (lf*2 ^ n y) (kJ K C H p y)))
   + (lf*jm (n y)+m y*kJ K C H p y))
 + (j-sl L m)*(2*lf)
end
theorem H5{K C H:Nat}{p:Nat->Nat}{b:Nat->Nat->Nat}{L:List Nat}(hL:L.Nodup)(h7:∀z∈L,z<7)(lf j:Nat) :
  zL K C H p b L lf j=sU K C H p b (mY b L) (nY p b L) L lf j:=by
 have e:ia K C H p b=tp K C H p b (mY b L) L:=by
  funext x y;unfold ia tp;rw[vw hL h7];rfl
 unfold zL sU vY vZ;rw[e]
theorem El{K C H h:Nat}{p p':Nat->Nat}{b b':Nat->Nat->Nat}{m n m' n':Nat->Nat}{g:Nat->Nat}{k:Nat}(hg:∀i,i<k->(g i=H↔i=h))
  (hp:∀i,i<k->p (g i)=p' i) (hb:∀x,x<k->∀y,y<k->b (g x) (g y)=b' x y) (hm:∀i,i<k->m (g i)=m' i) (hn:∀i,i<k->n (g i)=n' i) (lf j:Nat) :
  sU K C H p b m n ((List.range k).map g) lf j=sU K C h p' b' m' n' (List.range k) lf j:=by
 have es:∀f:Nat->Nat,sl ((List.range k).map g) f=sl (List.range k) λi=>f (g i):=λf=>by
  unfold sl;rw[Ti];rfl
 have ec:∀{f f':Nat->Nat},(∀i,i<k->f i=f' i)->sl (List.range k) f=sl (List.range k) f':=λ{f f'} h=>by
  unfold sl;congr 1;exact List.map_congr_left λi hi=>h i (RQ.1 hi)
 have nv:∀i,i<k->kJ K C H p (g i)=kJ K C h p' i:=λi hi=>by
  unfold kJ;rw[hp i hi];by_cases e:i=h
  ·rw[By e,By ((hg i hi).2 e)]
  ·rw[AT e,AT λe2=>e ((hg i hi).1 e2)]
 have ne1:∀i,i<k->nq K C H p (g i)=nq K C h p' i:=λi hi=>by
  unfold nq;rw[hp i hi];by_cases e:i=h
  ·rw[By e,By ((hg i hi).2 e)]
  ·rw[AT e,AT λe2=>e ((hg i hi).1 e2)]
 have nv2:∀i,i<k->∀z,z<k->k5 K C H b (g i) (g z)=k5 K C h b' i z:=λi hi z hz=>by
  unfold k5;rw[hb i hi z hz];by_cases e:i=h
  ·rw[By e,By ((hg i hi).2 e)]
  ·rw[AT e,AT λe2=>e ((hg i hi).1 e2)]
 have lam:∀x,x<k->∀y,y<k->tp K C H p b m ((List.range k).map g) (g x) (g y)=tp K C h p' b' m' (List.range k) x y:=λx hx y hy=>by
  unfold tp;rw[nv y hy,es,hp x hx,hb x hx y hy,hm x hx,ec λw hw=>hb w hw x hx]
 unfold sU vZ;simp only[es];congr 1
 ·congr 1
  ·congr 1;exact ec λi hi=>ne1 i hi
  ·refine ec λy hy=>?_;rw[nv y hy,ne1 y hy,hm y hy,hn y hy];have e1:sl (List.range k) (λx=>mV K (b (g x) (g y))*tp K C H p b m ((List.range k).map g) (g x) (g y)) =
    sl (List.range k) (λx=>mV K (b' x y)*tp K C h p' b' m' (List.range k) x y):=ec λx hx=>by rw[lam x hx y hy,hb x hx y hy]
   have e2:sl (List.range k) (λx=>min (lf*((2 ^ b (g x) (g y)-1)*2 ^ n' y)) (jm (b (g x) (g y))*tp K C H p b m ((List.range k).map g) (g x) (g y))) =
    sl (List.range k) (λx=>min (lf*((2 ^ b' x y-1)*2 ^ n' y)) (jm (b' x y)*tp K C h p' b' m' (List.range k) x y)):=ec λx hx=>by rw[lam x hx y hy,hb x hx y hy]
   rw[e1,e2];congr 1;congr 1;refine ec λz hz=>?_;rw[lam y hy z hz,nv z hz,nv2 y hy z hz,hb y hy z hz];congr 1;congr 1;congr 1;exact ec λx hx=>by rw[lam x hx y hy,hb x hx y hy]
 ·rw[ec λi hi=>hm i hi]
def qG:Nat->Nat->List (List Nat)
 | 0,_=>[[]]
 | k+1,n=>(List.range (n+1)).flatMap λi=>(qG k (n-i)).map λl=>i::l
theorem th:∀{k n:Nat} {l:List Nat},l.length=k->l.sum<=n->l∈qG k n
 | 0,n,l,h,_=>by rw[List.length_eq_zero_iff.1 h];simp[qG]
 | k+1,n,i::l,h,hs=>by
  simp only[R4,SG] at h hs;unfold qG;rw[S3];exact⟨i,RQ.2 zo,RI.2 ⟨l,th zo zo,rfl⟩⟩
def Ax(l:List Nat)(i:Nat):Nat:=l.getD i 0
def Ny(l:List (List Nat))(i j:Nat):Nat:=(l.getD i []).getD j 0
def val(K C h:Nat)(ps:List Nat)(bm:List (List Nat))(ms:List Nat)(lf j:Nat):Nat:=
 sU K C h (Ax ps) (Ny bm) (Ax ms) (λx=>Ax ps x-(bm.getD x []).sum) (List.range ps.length) lf j
def Et(k:Nat):List Nat->List (List (List Nat))
 | []=>[[]]
 | q::qs=>(qG k q).flatMap λr=>(Et k qs).map λl=>r::l
theorem CO{k:Nat}:∀{qs:List Nat} {bm:List (List Nat)},bm.length=qs.length->(∀i (h:i<bm.length) (h2:i<qs.length),bm[i].length=k/\bm[i].sum<=qs[i])->bm∈Et k qs
 | [],bm,h,_=>by rw[List.length_eq_zero_iff.1 h];simp[Et]
 | q::qs,r::bm,h,hr=>by
  unfold Et;rw[S3];obtain⟨h1,h2⟩:=hr 0 (by simp) (by simp);refine⟨r,th h1 h2,RI.2 ⟨bm,CO (by simpa using h) (λi a b=>?_),rfl⟩⟩;have:=hr (i+1) (by simp;omega) (by simp;omega);simpa using this
def dY(K C:Nat)(hs:List Nat)(ps:List Nat)(lf j:Nat):Bool:=
 (Et ps.length ps).all λbm=>(qG ps.length j).all λms=>hs.all λh=>Nat.ble (val K C h ps bm ms lf j) 398
def kG(K C:Nat)(hs:List Nat)(q:Nat)(qs:List Nat)(lf j i:Nat):Bool:=
 (qG qs.length (q-i)).all λr=>(Et (qs.length+1) qs).all λl=>(qG (qs.length+1) j).all λms=>hs.all λh=>Nat.ble (val K C h (q::qs) ((i::r)::l) ms lf j) 398
theorem rz{K C:Nat}{hs:List Nat}{q:Nat}{qs:List Nat}{lf j:Nat}(h:∀i,i<q+1->kG K C hs q qs lf j i=true):dY K C hs (q::qs) lf j=true:=by
 unfold dY;rw[SI];intro bm hb;unfold Et at hb;rw[S3] at hb;obtain⟨r,hr,hb⟩:=hb;obtain⟨l,hl,rfl⟩:=RI.1 hb;replace hr:r∈(List.range (q+1)).flatMap λi=>(qG qs.length (q-i)).map λl=>i::l:=hr;rw[S3] at hr;obtain⟨i,hi,hr⟩:=hr;obtain⟨r0,hr0,rfl⟩:=RI.1 hr;have:=h i (RQ.1 hi);unfold kG at this;rw[SI] at this;have:=this r0 hr0;rw[SI] at this;exact this l hl
theorem vV{K C H:Nat}{p:Nat->Nat}{b:Nat->Nat->Nat}{t:Nat->Nat->Nat->Nat}{L:List Nat}{lf:Nat}(c:vl p b t L lf)(hK:K<=12)
  {hs:List Nat} {h:Nat} (hh:h∈hs) (hH:∀i (hi:i<L.length),L[i]=H↔i=h) (hok:dY K C hs (L.map p) lf (sl (aM L) p)=true):dN K C H p b t<=398:=by
 refine AI (c.GU hK) ?_;rw[H5 c.PG c.lt];let k:=L.length;let g:Nat->Nat:=λi=>L.getD i 0;have hL:(List.range k).map g=L:=by
  apply List.ext_getElem
  ·simp[k]
  ·intro i h1 h2;simp[g,List.getElem_map,h2]
 have hgi:∀i (hi:i<k),g i=L[i]:=λi hi=>by simp[g,show i<L.length from hi]
 let bm:=L.map λx=>L.map (b x);let ms:=L.map (mY b L);have e:=El (K:=K) (C:=C) (H:=H) (h:=h) (p:=p) (p':=Ax (L.map p)) (b:=b) (b':=Ny bm) (m:=mY b L) (m':=Ax ms) (n:=nY p b L)
  (n':=λx=>Ax (L.map p) x-(bm.getD x []).sum) (g:=g) (k:=k) (λi hi=>by rw[hgi i hi];exact hH i hi)
  (λi hi=>by rw[hgi i hi];simp[Ax,show i<L.length from hi])
  (λx hx y hy=>by rw[hgi x hx,hgi y hy];simp[Ny,bm,show x<L.length from hx,show y<L.length from hy])
  (λi hi=>by rw[hgi i hi];simp[Ax,ms,show i<L.length from hi])
  (λi hi=>by rw[hgi i hi];simp[Ax,bm,nY,sl,show i<L.length from hi]) lf (sl (aM L) p)
 rw[hL] at e;rw[e];unfold dY at hok;rw[SI] at hok
 have h1:=hok bm (CO (by simp[bm]) (λi a a2=>by
  have hi:i<L.length:=by simpa [bm] using a
  simp only[bm,List.getElem_map,RL];refine⟨trivial,?_⟩;have:=c.row L[i];rw[c.GK] at this;exact AI (Nat.le_add_right _ _) this))
 rw[SI] at h1
 have h2:=h1 ms (th (by simp[ms]) (by
  have:=c.Mh;have e3:sl (aM L) (λy=>sm (b y))<=sl (aM L) p:=eD λy _=>c.row y;have e4:sl L (mY b L)<=sl (aM L) λy=>sm (b y):=by
   have:sl L (mY b L)=sl (aM L) λy=>sl L (b y):=by
    unfold mY;rw[mG]
   rw[this];exact eD λy _=>by rw[c.GK];omega
  exact AI e4 e3))
 rw[SI] at h2;have h3:=S1 (h2 h hh);unfold val at h3;simp only[RL] at h3;exact h3
end Bd
set_option linter.unusedVariables false
namespace Bd
theorem s4:∀j,j<5->dY 12 16 [9] [4] 2 j=true:=by decide +kernel
theorem s5:∀j,j<4->dY 12 16 [9] [5] 2 j=true:=by decide +kernel
theorem s6:∀j,j<3->dY 12 16 [9] [6] 2 j=true:=by decide +kernel
theorem QD:∀j,j<3->dY 12 16 [9] [4,2] 2 j=true:=by decide +kernel
theorem QT:∀j,j<2->dY 12 16 [9] [5,2] 2 j=true:=by decide +kernel
theorem QY:dY 12 16 [9] [6,2] 1 0=true:=by decide +kernel
theorem Rm:dY 12 16 [9] [7,1] 1 0=true:=by decide +kernel
theorem s7:dY 12 16 [9] [7] 1 0=true:=by decide +kernel
theorem Pu:dY 12 2 [0,1] [4,3] 1 0=true/\dY 10 4 [0,1] [4,3] 1 0=true/\dY 9 8 [0,1] [4,3] 1 0=true:=by decide +kernel
theorem s8:dY 12 2 [0] [8] 1 0=true/\dY 10 4 [0] [8] 1 0=true/\dY 9 8 [0] [8] 1 0=true:=by decide +kernel
theorem Qj:dY 12 2 [0,1] [4,4] 1 0=true/\dY 10 4 [0,1] [4,4] 1 0=true/\dY 9 8 [0,1] [4,4] 1 0=true:=by decide +kernel
theorem Pz:dY 12 2 [0,1] [5,3] 1 0=true/\dY 10 4 [0,1] [5,3] 1 0=true/\dY 9 8 [0,1] [5,3] 1 0=true:=by decide +kernel
end Bd
set_option linter.unusedVariables false
namespace Bd
theorem Nu(n:Nat):2 ^ min 4 n<=16:=by
 have:2 ^ min 4 n<=2 ^ 4:=RS zo zo;simpa using this
theorem Bl{K H H':Nat}{p:Nat->Nat}{b:Nat->Nat->Nat}{t:Nat->Nat->Nat->Nat}:dN K 16 H p b t=dN K 16 H' p b t:=by
 have e1:∀H,kJ K 16 H p=λz=>min (2 ^ min 4 (p z)) K:=λH=>by
  funext z;have:=Nu (p z);unfold kJ;split<;>omega
 have e2:∀H,nq K 16 H p=λz=>mV K (p z):=λH=>by
  funext z;have:=Nu (p z);unfold nq mV;split<;>omega
 have e3:∀H,k5 K 16 H b=λy z=>min (2 ^ min 4 (b y z)) K:=λH=>by
  funext y z;have:=Nu (b y z);unfold k5;split<;>omega
 unfold dN wR vX ia;simp only[e1,e2,e3]
theorem gD{K H:Nat}{p:Nat->Nat}{b:Nat->Nat->Nat}{t:Nat->Nat->Nat->Nat}{L:List Nat}{lf:Nat}(c:vl p b t L lf)(hK:K<=12)
  (hok:dY K 16 [9] (L.map p) lf (sl (aM L) p)=true):dN K 16 H p b t<=398:=by
 rw[Bl (H':=7)];have hl:L.length<=7:=by
  have h:=TV c.PG (l₂:=List.range 7) λz hz=>RQ.2 (c.lt z hz);simpa using h
 refine vV c hK (h:=9) (by simp) (λi hi=>?_) hok;have:=c.lt _ (TK hi);constructor
 ·intro e;omega
 ·intro e;omega
end Bd
set_option linter.unusedVariables false
namespace Bd
theorem Mx:kG 12 16 [9] 4 [2,2] 1 0 0=true:=by decide +kernel
theorem Mw:kG 12 16 [9] 4 [2,2] 1 0 1=true:=by decide +kernel
theorem MK:kG 12 16 [9] 4 [2,2] 1 0 2=true:=by decide +kernel
theorem MB:kG 12 16 [9] 4 [2,2] 1 0 3=true:=by decide +kernel
theorem Nv:kG 12 16 [9] 4 [2,2] 1 0 4=true:=by decide +kernel
theorem PN:dY 12 16 [9] [4,2,2] 1 0=true:=rz λi hi=>match i,hi with
 | 0,_=>Mx
 | 1,_=>Mw
 | 2,_=>MK
 | 3,_=>MB
 | 4,_=>Nv
 | i+5,h=>absurd h zo
end Bd
set_option linter.unusedVariables false
namespace Bd
theorem LX:kG 10 16 [9] 4 [3,1] 1 0 0=true:=by decide +kernel
theorem KN:kG 10 16 [9] 4 [3,1] 1 0 1=true:=by decide +kernel
theorem LL:kG 10 16 [9] 4 [3,1] 1 0 2=true:=by decide +kernel
theorem LC:kG 10 16 [9] 4 [3,1] 1 0 3=true:=by decide +kernel
theorem Ln:kG 10 16 [9] 4 [3,1] 1 0 4=true:=by decide +kernel
theorem NZ:dY 10 16 [9] [4,3,1] 1 0=true:=rz λi hi=>match i,hi with
 | 0,_=>LX
 | 1,_=>KN
 | 2,_=>LL
 | 3,_=>LC
 | 4,_=>Ln
 | i+5,h=>absurd h zo
theorem KG:kG 12 2 [0] 4 [3,1] 1 0 0=true:=by decide +kernel
theorem Lj:kG 12 2 [0] 4 [3,1] 1 0 1=true:=by decide +kernel
theorem Lt:kG 12 2 [0] 4 [3,1] 1 0 2=true:=by decide +kernel
theorem Lo:kG 12 2 [0] 4 [3,1] 1 0 3=true:=by decide +kernel
theorem KJ:kG 12 2 [0] 4 [3,1] 1 0 4=true:=by decide +kernel
theorem OT:dY 12 2 [0] [4,3,1] 1 0=true:=rz λi hi=>match i,hi with
 | 0,_=>KG
 | 1,_=>Lj
 | 2,_=>Lt
 | 3,_=>Lo
 | 4,_=>KJ
 | i+5,h=>absurd h zo
theorem Ls:kG 12 2 [1] 4 [3,1] 1 0 0=true:=by decide +kernel
theorem La:kG 12 2 [1] 4 [3,1] 1 0 1=true:=by decide +kernel
theorem KY:kG 12 2 [1] 4 [3,1] 1 0 2=true:=by decide +kernel
theorem Lb:kG 12 2 [1] 4 [3,1] 1 0 3=true:=by decide +kernel
theorem KV:kG 12 2 [1] 4 [3,1] 1 0 4=true:=by decide +kernel
theorem O5:dY 12 2 [1] [4,3,1] 1 0=true:=rz λi hi=>match i,hi with
 | 0,_=>Ls
 | 1,_=>La
 | 2,_=>KY
 | 3,_=>Lb
 | 4,_=>KV
 | i+5,h=>absurd h zo
end Bd
set_option linter.unusedVariables false
namespace Bd
section
variable {p:Nat->Nat}{b:Nat->Nat->Nat}{t:Nat->Nat->Nat->Nat}
structure Iv(p:Nat->Nat)(b:Nat->Nat->Nat)(t:Nat->Nat->Nat->Nat):Prop where
 qL:sm p<=8
 row:∀x,sm (b x)<=p x
 ends:∀x y,sm (t x y)<=b x y
theorem Iv.sN(c:Iv p b t){L:List Nat}(hL:L.Nodup)(h7:∀z∈L,z<7)(h1:∀z,z<7->z∉L->p z<=1):vl p b t L 2/\(sl (aM L) p=0->vl p b t L 1):=by
 have hr:∀z∈aM L,z<7/\z∉L:=λz hz=>by
  unfold aM at hz;rw[RJ,RQ] at hz;exact⟨hz.1,by simpa using hz.2⟩
 refine⟨⟨hL,h7,c.qL,c.row,c.ends,λz hz=>h1 z (hr z hz).1 (hr z hz).2,λz hz=>?_⟩,λh0=>⟨hL,h7,c.qL,c.row,c.ends,λz hz=>h1 z (hr z hz).1 (hr z hz).2,λz hz=>?_⟩⟩
 ·have:=h1 z (hr z hz).1 (hr z hz).2;have h2:p z=0\/p z=1:=by omega
  rcases h2 with h2 | h2<;>rw[h2]<;>decide
 ·have:=ot p hz;have h2:p z=0:=by omega
  rw[h2];decide
theorem Iv.sum(c:Iv p b t){L:List Nat}(hL:L.Nodup)(h7:∀z∈L,z<7):sl L p+sl (aM L) p<=8:=by
 have:=c.qL;rw[vw hL h7] at this;exact this
theorem Iv.plain(c:Iv p b t){u:Nat}(hu:u<7)(h4:4<=p u){H:Nat} :
  dN 12 16 H p b t<=398\/(p u=8)\/(∃v,v<7/\v≠u/\3<=p v):=by
 by_cases hv:∃v,v<7/\v≠u/\2<=p v
 ·obtain⟨v,v7,vu,v2⟩:=hv;by_cases v3:3<=p v
  ·exact .inr (.inr ⟨v,v7,vu,v3⟩)
  ·have pv:p v=2:=by omega
   by_cases hw:∃w,w<7/\w≠u/\w≠v/\2<=p w
   ·obtain⟨w,w7,wu,wv,w2⟩:=hw;have nd:[u,v,w].Nodup:=by simp[Ne.symm vu,Ne.symm wu,Ne.symm wv]
    have l7:∀z∈[u,v,w],z<7:=by simp;omega
    have hs:=c.sum nd l7;simp only[dk,kC] at hs;have pu:p u=4:=by omega
    have pw:p w=2:=by omega
    have h0:sl (aM [u,v,w]) p=0:=by omega
    refine .inl (gD ((c.sN nd l7 λz hz hn=>?_).2 h0) zo (by simp only[JN,SQ,pu,pv,pw,h0];exact PN));have hz2:z∈aM [u,v,w]:=by unfold aM;rw[RJ,RQ];exact⟨hz,by simpa using hn⟩
    have:=ot p hz2;omega
   ·have nd:[u,v].Nodup:=by simp[Ne.symm vu]
    have l7:∀z∈[u,v],z<7:=by simp;omega
    have hs:=c.sum nd l7;simp only[dk,kC] at hs;have h1:∀z,z<7->z∉[u,v]->p z<=1:=λz hz hn=>by
     simp only[R0,SR,T4,not_or] at hn;have:¬2<=p z:=λh=>hw ⟨z,hz,hn.1,hn.2,h⟩;omega
    have hp:p u=4\/p u=5\/p u=6:=by omega
    rcases hp with pu | pu | pu
    ·exact .inl (gD (c.sN nd l7 h1).1 zo (by simp only[JN,SQ,pu,pv];exact QD _ zo))
    ·exact .inl (gD (c.sN nd l7 h1).1 zo (by simp only[JN,SQ,pu,pv];exact QT _ zo))
    ·have h0:sl (aM [u,v]) p=0:=by omega
     exact .inl (gD ((c.sN nd l7 h1).2 h0) zo (by simp only[JN,SQ,pu,pv,h0];exact QY))
 ·have nd:[u].Nodup:=by simp
  have l7:∀z∈[u],z<7:=by simp;omega
  have hs:=c.sum nd l7;simp only[dk,kC] at hs;have h1:∀z,z<7->z∉[u]->p z<=1:=λz hz hn=>by
   simp only[R0,SR,T4] at hn;have:¬2<=p z:=λh=>hv ⟨z,hz,hn,h⟩;omega
  have hp:p u=4\/p u=5\/p u=6\/p u=7\/p u=8:=by omega
  rcases hp with pu | pu | pu | pu | pu
  ·exact .inl (gD (c.sN nd l7 h1).1 zo (by simp only[JN,SQ,pu];exact s4 _ zo))
  ·exact .inl (gD (c.sN nd l7 h1).1 zo (by simp only[JN,SQ,pu];exact s5 _ zo))
  ·exact .inl (gD (c.sN nd l7 h1).1 zo (by simp only[JN,SQ,pu];exact s6 _ zo))
  ·by_cases hw:∃w,w<7/\w≠u/\1<=p w
   ·obtain⟨w,w7,wu,w1⟩:=hw;have nd:[u,w].Nodup:=by simp[Ne.symm wu]
    have l7:∀z∈[u,w],z<7:=by simp;omega
    have hs:=c.sum nd l7;simp only[dk,kC] at hs;have pw:p w=1:=by omega
    have h0:sl (aM [u,w]) p=0:=by omega
    have h2:∀z,z<7->z∉[u,w]->p z<=1:=λz hz hn=>h1 z hz (by simp only[R0,SR,T4,not_or] at hn ⊢;exact hn.1);exact .inl (gD ((c.sN nd l7 h2).2 h0) zo (by simp only[JN,SQ,pu,pw,h0];exact Rm))
   ·have h0:sl (aM [u]) p=0:=by
     have e:sl (aM [u]) p<=sl (aM [u]) λ_=>0:=eD λz hz=>by
      have h7:=gG hz;unfold aM at hz;rw[RJ] at hz;have hn:z≠u:=by simpa using hz.2
      have:¬1<=p z:=λh=>hw ⟨z,h7,hn,h⟩;omega
     have e2:sl (aM [u]) (λ_=>0)=0:=by
      have:=iy (aM [u]) (λ_=>1) 0;simpa using this
     omega
    exact .inl (gD ((c.sN nd l7 h1).2 h0) zo (by simp only[JN,SQ,pu,h0];exact s7))
  ·exact .inr (.inl pu)
end
end Bd
set_option linter.unusedVariables false
namespace Bd
section
variable {p:Nat->Nat}{b:Nat->Nat->Nat}{t:Nat->Nat->Nat->Nat}
theorem sB{L:List Nat}{H:Nat}(hL:L.Nodup){h:Nat}(hh:h<L.length)(e:L[h]=H):∀i (hi:i<L.length),L[i]=H↔i=h:=by
 intro i hi;constructor
 ·intro e2;exact(List.getElem_inj hL).1 (e2.trans e.symm)
 ·rintro rfl;exact e
theorem Iv.Me(c:Iv p b t){u:Nat}(hu:u<7)(h4:4<=p u){H:Nat}(hH:H<7)(pH:1<=p H){K C:Nat}(hKC:(K,C)=(12,2)\/(K,C)=(10,4)\/(K,C)=(9,8))
  (h8:p u=8\/∃v,v<7/\v≠u/\3<=p v/\sl (aM [u,v]) p=0):dN K C H p b t<=398:=by
 have hK:K<=12:=by
  rcases hKC with h | h | h<;>simp only[Sb] at h<;>omega
 rcases h8 with pu | ⟨v,v7,vu,v3,h0⟩
 ·have nd:[u].Nodup:=by simp
  have l7:∀z∈[u],z<7:=by simp;omega
  have hs:=c.sum nd l7;simp only[dk,kC] at hs;have h0:sl (aM [u]) p=0:=by omega
  have hz:∀z,z<7->z∉[u]->p z=0:=λz hz hn=>by
   have hz2:z∈aM [u]:=by unfold aM;rw[RJ,RQ];exact⟨hz,by simpa using hn⟩
   have:=ot p hz2;omega
  have eH:H=u:=by
   by_cases e:H=u
   ·exact e
   ·have:=hz H hH (by simpa using e);omega
  refine vV ((c.sN nd l7 λz h1 h2=>by rw[hz z h1 h2];omega).2 h0) hK (hs:=[0]) (h:=0) (by simp) (sB nd (by simp) (by simp[eH])) ?_;simp only[JN,SQ,pu,h0];rcases hKC with h | h | h<;>simp only[Sb] at h<;>obtain⟨rfl,rfl⟩:=h
  ·exact s8.1
  ·exact s8.2.1
  ·exact s8.2.2
 ·have nd:[u,v].Nodup:=by simp[Ne.symm vu]
  have l7:∀z∈[u,v],z<7:=by simp;omega
  have hs:=c.sum nd l7;simp only[dk,kC] at hs;have hget:∀z,z<7->z∉[u,v]->p z=0:=λz hz hn=>by
   have hz2:z∈aM [u,v]:=by unfold aM;rw[RJ,RQ];exact⟨hz,by simpa using hn⟩
   have:=ot p hz2;omega
  have hc:=(c.sN nd l7 λz h1 h2=>by have:=hget z h1 h2;omega).2 h0;have hin:H=u\/H=v:=by
   by_cases e:H=u
   ·exact .inl e
   ·by_cases e2:H=v
    ·exact .inr e2
    ·have:=hget H hH (by simp[e,e2]);omega
  have hidx:∃h,h∈[0,1]/\∀i (hi:i<[u,v].length),[u,v][i]=H↔i=h:=by
   rcases hin with e | e
   ·exact⟨0,by simp,sB nd (by simp) (by simp[e])⟩
   ·exact⟨1,by simp,sB nd (by simp) (by simp[e])⟩
  obtain⟨h,hm,hi⟩:=hidx;refine vV hc hK (hs:=[0,1]) hm hi ?_;have hp:(p u=4/\p v=3)\/(p u=4/\p v=4)\/(p u=5/\p v=3):=by omega
  rcases hp with ⟨pu,pv⟩ | ⟨pu,pv⟩ | ⟨pu,pv⟩<;>simp only[JN,SQ,pu,pv,h0]<;>
   rcases hKC with h | h | h<;>simp only[Sb] at h<;>obtain⟨rfl,rfl⟩:=h
  ·exact Pu.1
  ·exact Pu.2.1
  ·exact Pu.2.2
  ·exact Qj.1
  ·exact Qj.2.1
  ·exact Qj.2.2
  ·exact Pz.1
  ·exact Pz.2.1
  ·exact Pz.2.2
theorem Iv.three(c:Iv p b t){u v w:Nat}(hu:u<7)(hv:v<7)(hw:w<7)(huv:u≠v)(huw:u≠w)(hvw:v≠w)(pu:p u=4)(pv:p v=3)(pw:p w=1){H:Nat} :
  dN 10 16 H p b t<=398/\((H=u\/H=v)->dN 12 2 H p b t<=398):=by
 have nd3:[u,v,w].Nodup:=by simp[huv,huw,hvw]
 have l73:∀z∈[u,v,w],z<7:=by simp;omega
 have hs3:=c.sum nd3 l73;simp only[dk,kC] at hs3;have h03:sl (aM [u,v,w]) p=0:=by omega
 have hc:=(c.sN nd3 l73 λz h1 h2=>by
  have hz2:z∈aM [u,v,w]:=by unfold aM;rw[RJ,RQ];exact⟨h1,by simpa using h2⟩
  have:=ot p hz2;omega).2 h03
 refine⟨gD hc zo (by simp only[JN,SQ,pu,pv,pw,h03];exact NZ),λhin=>?_⟩;rcases hin with e | e
 ·exact vV hc zo (hs:=[0]) (h:=0) (by simp) (sB nd3 (by simp) (by simp[e])) (by simp only[JN,SQ,pu,pv,pw,h03];exact OT)
 ·exact vV hc zo (hs:=[1]) (h:=1) (by simp) (sB nd3 (by simp) (by simp[e])) (by simp only[JN,SQ,pu,pv,pw,h03];exact O5)
end
end Bd
set_option linter.unusedVariables false
namespace Bd
section
variable {R:List Ru}{s0:Nat}{ws:List (List Nat)}
theorem bP.OY(G:bP R s0 ws){M:Nat}(hM:M<4)(he:1<=(Pr R M).length){u:Nat}(hu:u<7)(h4:4<=(Lf R [u]).length)
  (hx:∀v,v<7->v≠u->cn R [u]=4->cn R [v]=3->cn R [3+M]=1->(Pr R M).length=1->3+M≠u->3+M≠v->
   Bd.dN 12 2 (3+M) (λz=>cn R [z]) (λy z=>cn R [y,z]) (λx y z=>cn R [x,y,z])<=398):ws.length<=398:=by
 have c:Iv (λz=>cn R [z]) (λy z=>cn R [y,z]) (λx y z=>cn R [x,y,z]):=
  ⟨AI (gB R []) (vA G.ok []),λx=>gB R [x],λx y=>gB R [x,y]⟩
 have hp:4<=cn R [u]:=AI h4 (di R [u]);have ho:=EL (R:=R) hM;have pH:1<=cn R [3+M]:=by
  have h1:(Pr R M).length<=(Lf R [3+M]).length:=TQ _ _;have:=di R [3+M];omega
 have hcases:(Pr R M).length=1/\(Ot R M).length=2\/(Pr R M).length=2/\(Ot R M).length=1\/(Pr R M).length=3/\(Ot R M).length=0:=by omega
 have fin:∀{K C:Nat},(K,C)=(12,2)\/(K,C)=(10,4)\/(K,C)=(9,8)->True:=λ_=>trivial;obtain⟨K,C,hKC,hK,hC⟩:∃K C,((K,C)=(12,2)\/(K,C)=(10,4)\/(K,C)=(9,8))/\8+2 ^ (Ot R M).length<=K/\2 ^ (Pr R M).length<=C:=by
  rcases hcases with ⟨a,b⟩ | ⟨a,b⟩ | ⟨a,b⟩<;>rw[a,b]
  ·exact⟨12,2,.inl rfl,by decide,by decide⟩
  ·exact⟨10,4,.inr (.inl rfl),by decide,by decide⟩
  ·exact⟨9,8,.inr (.inr rfl),by decide,by decide⟩
 rcases c.plain hu hp (H:=3+M) with h | h | ⟨v,v7,vu,v3⟩
 ·refine AI (G.dN hM (K:=12) (C:=16) ?_ ?_) h
  ·rcases hcases with ⟨a,b⟩ | ⟨a,b⟩ | ⟨a,b⟩<;>rw[b]<;>decide
  ·rcases hcases with ⟨a,b⟩ | ⟨a,b⟩ | ⟨a,b⟩<;>rw[a]<;>decide
 ·exact AI (G.dN hM hK hC) (c.Me hu hp zo pH hKC (.inl h))
 ·by_cases h0:sl (aM [u,v]) (λz=>cn R [z])=0
  ·exact AI (G.dN hM hK hC) (c.Me hu hp zo pH hKC (.inr ⟨v,v7,vu,v3,h0⟩))
  ·have nd:[u,v].Nodup:=by simp[Ne.symm vu]
   have l7:∀z∈[u,v],z<7:=by simp;omega
   have hs:=c.sum nd l7;simp only[dk,kC] at hs;have hget:∀z,z<7->z∉[u,v]->cn R [z]<=sl (aM [u,v]) λz=>cn R [z]:=λz hz hn=>by
    have hz2:z∈aM [u,v]:=by unfold aM;rw[RJ,RQ];exact⟨hz,by simpa using hn⟩
    exact ot (λz=>cn R [z]) hz2
   have pu:cn R [u]=4:=by omega
   have pv:cn R [v]=3:=by omega
   obtain⟨w,w7,wn,w1⟩:∃w,w<7/\w∉[u,v]/\cn R [w]=1:=by
    apply Classical.byContradiction;intro hno;apply h0;have e:sl (aM [u,v]) (λz=>cn R [z])<=sl (aM [u,v]) λ_=>0:=eD λz hz=>by
     have z7:=gG hz;have hn:z∉[u,v]:=by
      unfold aM at hz;rw[RJ] at hz;simpa using hz.2
     have h1:¬cn R [z]=1:=λh=>hno ⟨z,z7,hn,h⟩;have:=hget z z7 hn;omega
    have e2:sl (aM [u,v]) (λ_=>0)=0:=by
     have:=iy (aM [u,v]) (λ_=>1) 0;simpa using this
    omega
   simp only[R0,SR,T4,not_or] at wn;have h3:=c.three hu v7 w7 (Ne.symm vu) (Ne.symm wn.1) (Ne.symm wn.2) pu pv w1 (H:=3+M);rcases hcases with ⟨a,b⟩ | ⟨a,b⟩ | ⟨a,b⟩
   ·by_cases hin:3+M=u\/3+M=v
    ·exact AI (G.dN hM (by rw[b];decide) (by rw[a];decide)) (h3.2 hin)
    ·have hn:3+M∉[u,v]:=by simpa using hin
     have:=hget (3+M) zo hn;refine AI (G.dN hM (K:=12) (C:=2) (by rw[b];decide) (by rw[a];decide)) (hx v v7 vu pu pv zo a (λe=>hin (.inl e)) λe=>hin (.inr e))
   ·exact AI (G.dN hM (K:=10) (C:=16) (by rw[b];decide) (by rw[a];decide)) h3.1
   ·exact AI (G.dN hM (K:=10) (C:=16) (by rw[b];decide) (by rw[a];decide)) h3.1
end
end Bd
set_option linter.unusedVariables false
namespace Bd
section
variable {R:List Ru}{s0:Nat}{ws:List (List Nat)}
theorem vc(ok:lT R)(h:pg R+rT R=0){w:List Nat}{m:Nat}(hp:Pd R s0 w m):w.length % 2=0:=by
 induction hp with
 | start=>rfl
 | @one z m w l r hr e hp ih=>
  exfalso;have hz:=ok.sym r hr z (by rw[e];simp);have hm:=ok.sym r hr (3+m) (by rw[e];simp);by_cases hz3:z<3
  ·have h1:=qt (p:=[z,3+m]) hr (by rw[e];rfl);have h2:=AI (nL (λM=>cn R [z,3+M]) (show m<4 by omega)) (nC R z);have h3:=vO (nT R) hz3;unfold pg at h;omega
  ·have h1:=qt (p:=[z]) hr (by rw[e];rfl);have h2:=AI (nL (λM=>cn R [3+M]) (show z-3<4 by omega)) (Cx ok);rw[show 3+(z-3)=z by omega] at h2;omega
 | two hr e hp ih=>simp only[R4];omega
 | xG hp hr e ih=>exact ih
theorem zj{Q:List Nat->Prop}{φ:List Nat->List Nat}(L:List Nat)(h:∀u,Q u->∀n,¬Pd R s0 (φ u) n):dJ R s0 Q φ L 1:=
 ⟨λ_=>0,λ_ _=>Nat.one_pos,λu v hu hv _ n _=>⟨λk=>absurd k (h u hu n),λk=>absurd k (h v hv n)⟩⟩
theorem L1{l c:Nat}(h4:l<=4)(hc:l<=c):2 ^ l-1<=c*15:=by
 have:l=0\/l=1\/l=2\/l=3\/l=4:=by omega
 rcases this with rfl | rfl | rfl | rfl | rfl<;>simp<;>omega
theorem bP.even(G:bP R s0 ws)(h:pg R+rT R=0):ws.length<=398:=by
 have hs:=pb G.ok G.live;rw[sC] at hs;have c8:sm (λz=>cn R [z])<=8:=AI (gB R []) (vA G.ok []);have a1:sm (λz=>(dA R s0 ws [z]).length)<=8*15:=by
  refine AI (gv λz _=>AI (G.n1 (j9 λw h=>h.2)) (L1 (ei R [z]) (di R [z]))) ?_;rw[j8];exact OF _ c8
 have a2:sm (λy=>sm λz=>(dA R s0 ws [z,y]).length)<=8*15:=by
  have e:∀y,sm (λz=>(dA R s0 ws [z,y]).length)<=cn R [y]*15:=λy=>by
   refine AI (gv (g:=λz=>cn R [y,z]*15) λz _=>?_) ?_
   ·have k:=G.c2 (z:=z) (y:=y) (kH λu h=>h.ne G.ok) (zj (φ:=λu=>y::u) (Lf R [z]) λu hu n hn=>by
     obtain⟨m,_,hm⟩:=hu.ne G.ok;have e1:=vc G.ok h hm;have e2:=vc G.ok h hn;simp only[R4] at e2;omega)
    rw[Sy] at k;exact AI k (L1 (ei R [y,z]) (di R [y,z]))
   ·rw[j8];exact OF _ (gB R [y])
  refine AI (gv λy _=>e y) ?_;rw[j8];exact OF _ c8
 have a3:sm (λx=>sm λy=>sm λz=>(dA R s0 ws [z,y,x]).length)<=8*8:=by
  have e:∀x y,sm (λz=>(dA R s0 ws [z,y,x]).length)<=cn R [x,y]*8:=λx y=>by
   refine AI (gv (g:=λz=>cn R [x,y,z]*8) λz _=>?_) ?_
   ·have k:=G.Pg (z:=z) (y:=y) (x:=x) (oU (dr [x,y,z]) (dr [x,y]) (λn hn=>fH (p:=[x,y]) (q:=[z]) hn) λu h=>h.ne G.ok)
     (zj (φ:=λu=>x::u) (Lf R [y]) λu hu n hn=>by
      obtain⟨m,_,hm⟩:=hu.ne G.ok;have e1:=vc G.ok h hm;have e2:=vc G.ok h hn;simp only[R4] at e2;omega)
    rw[Sy] at k;have hm:(Lf R [x,y,z]).length<=(Lf R [x,y]).length:=jh R [x,y] [z];have b4:=ei R [x,y];refine AI k (AI (half (Lf R [x,y]).length zo (Lf R [x,y,z]).length zo hm) ?_);rw[Tj];refine Sl (di R _) ?_;have:2 ^ ((Lf R [x,y]).length-1)<=2 ^ 3:=dO zo;simpa using this
   ·rw[j8];exact OF _ (gB R [x,y])
  have e2:∀x,sm (λy=>sm λz=>(dA R s0 ws [z,y,x]).length)<=cn R [x]*8:=λx=>by
   refine AI (gv λy _=>e x y) ?_;rw[j8];exact OF _ (gB R [x])
  refine AI (gv λx _=>e2 x) ?_;rw[j8];exact OF _ c8
 omega
theorem bP.Ow(G:bP R s0 ws):ws.length<=398:=by
 by_cases h3:∀z,(Lf R [z]).length<=3
 ·have:=OX G h3;omega
 ·obtain⟨u,hu⟩:=Classical.not_forall.1 h3;have h4:4<=(Lf R [u]).length:=by omega
  have hu7:u<7:=by
   obtain⟨n,hn⟩:=Us (show 0<(Lf R [u]).length by omega);unfold Lf at hn;rw[RJ,Sv] at hn;obtain⟨_,r,hr,e⟩:=hn;simp only[IN,Sr] at e;obtain⟨_,l,e⟩:=e;exact G.ok.sym r hr u (by rw[<-e];simp)
  have c4:=AI h4 (di R [u]);by_cases hE:∀M,M<4->(Lf R [3+M]).length<=1
  ·have hu3:u<3:=by
    apply Classical.byContradiction;intro h;have:=hE (u-3) zo;rw[show 3+(u-3)=u by omega] at this;omega
   by_cases hn:pg R+rT R=0
   ·exact G.even hn
   ·have:∃b c,b<3/\c<3/\(∀f:Nat->Nat,u3 f=f u+f b+f c)/\cn R [c]<=cn R [b]:=by
     have:u=0\/u=1\/u=2:=by omega
     rcases this with rfl | rfl | rfl
     ·rcases TZ (cn R [1]) (cn R [2]) with h | h
      ·exact⟨2,1,by omega,by omega,λf=>by simp only[u3];omega,h⟩
      ·exact⟨1,2,by omega,by omega,λf=>by simp only[u3],h⟩
     ·rcases TZ (cn R [0]) (cn R [2]) with h | h
      ·exact⟨2,0,by omega,by omega,λf=>by simp only[u3];omega,h⟩
      ·exact⟨0,2,by omega,by omega,λf=>by simp only[u3];omega,h⟩
     ·rcases TZ (cn R [0]) (cn R [1]) with h | h
      ·exact⟨1,0,by omega,by omega,λf=>by simp only[u3];omega,h⟩
      ·exact⟨0,1,by omega,by omega,λf=>by simp only[u3];omega,h⟩
    obtain⟨b,c,hb,hc,h0,hbc⟩:=this;exact G.NX hE hu3 hb hc h0 c4 hbc hn
  ·obtain⟨M,hM⟩:=Classical.not_forall.1 hE;obtain⟨hM,h2⟩:=Classical.not_imp.1 hM;have c2:=di R [3+M];refine G.OY hM ?_ hu7 h4 λv _ _ _ _ h1=>by omega
   have h1:=TL (λn=>decide (n=M)) (l:=Lf R [3+M]);have h5:(Lf R [3+M]).countP (λn=>decide (n=M))<=1:=by
    have:=List.nodup_iff_count.1 (dr (R:=R) [3+M]) M;rw[List.count_eq_countP] at this;refine AI (T9 λx _ h=>?_) this;simpa using h
   unfold Pr;rw[<-Sn];have h6:(Lf R [3+M]).countP (λa=>decide ¬(decide (a=M))=true)=(Lf R [3+M]).countP λn=>decide (n≠M):=by
    congr 1;funext a;simp
   rw[h6] at h1;omega
end
end Bd
set_option linter.unusedVariables false
set_option maxRecDepth 20000
set_option maxHeartbeats 0
open Go Go.Abs Go.Proofs Go.Proofs.D
namespace Go.Proofs.D
def ff(y:Sym):Nat:=if y.term=true then y.n else 3+y.n
def xI(g:ai):List Bd.Ru:=g.rules.map λr=>(r.left,r.right.map ff)
theorem y5{g:ai}(ht:g.ae<=3){x y:Sym}(hx:ck g.ae g.au x)(hy:ck g.ae g.au y)(h:ff x=ff y):x=y:=by
 obtain⟨a,n⟩:=x;obtain⟨b,m⟩:=y;unfold ck at hx hy;unfold ff at h;cases a<;>cases b<;>simp at h hx hy ⊢<;>omega
theorem Small.QO{g:ai}(h:Small g):Bd.lT (xI g):=by
 refine⟨λr hr=>?_,λr hr s hs=>?_,λr hr=>?_,?_⟩
 ·obtain⟨q,hq,rfl⟩:=RI.1 hr;have:=(h.ok q hq).1;have:=h.au.2;show q.left<4;omega
 ·obtain⟨q,hq,rfl⟩:=RI.1 hr;obtain⟨y,hy,rfl⟩:=RI.1 hs;have h1:=(h.ok q hq).2.2 y hy;have:=h.au.2;have:=h.ae.2;unfold ck at h1;unfold ff;split at h1<;>rename_i e<;>simp only[e,SU]<;>simp<;>omega
 ·obtain⟨q,hq,rfl⟩:=RI.1 hr;have:=(h.ok q hq).2.1;show (q.right.map ff).length<=3;rw[RL];exact this
 ·unfold xI;rw[RL];exact h.rules.2
theorem Small.sym{g:ai}(h:Small g){k:Nat}{r:bW}(hr:g.rules[k]?=some r){d:Nat}{y:Sym}(hy:r.right[d]?=some y):ck g.ae g.au y:=
 (h.ok r (gM hr)).2.2 y (gM hy)
def yh(g:ai)(w:List Nat)(z:Lr):Prop:=
 (z.az=g.rules.length/\((z.dot=0/\w=[])\/(z.dot=1/\w=[3+g.start])))\/
 ∃r,g.rules[z.az]?=some r/\z.dot<=r.right.length/\∃v,w=((r.right.take z.dot).map ff).reverse++v/\Bd.Pd (xI g) g.start v r.left
theorem ja{g:ai}{k d:Nat}{r:bW}(h:g.rules[k]?=some r):aQ g ⟨k,d⟩=r.right[d]?:=by
 unfold aQ;have:=(gS h).1;dsimp only;rw[AT zo,h]
theorem A2{g:ai}{k:Nat}{r:bW}(h:g.rules[k]?=some r):(r.left,r.right.map ff)∈xI g:=RI.2 ⟨r,gM h,rfl⟩
theorem yh.pd{g:ai}(hs:Small g){w:List Nat}{x:Lr}(h:yh g w x){n:Nat}(ha:aQ g x=some ⟨false,n⟩):Bd.Pd (xI g) g.start w n:=by
 obtain⟨k,d⟩:=x;rcases h with ⟨e,h⟩ | ⟨r,hr,hd,v,rfl,hp⟩
 ·have e:k=g.rules.length:=e;subst e;unfold aQ at ha;dsimp only at ha;rw[By rfl] at ha;rcases h with ⟨e,rfl⟩ | ⟨e,_⟩
  ·have e:d=0:=e;subst e;rw[By rfl] at ha;have:=(Sym.mk.inj (BY ha)).2;subst this;exact .start
  ·have e:d=1:=e;subst e;rw[AT (by decide)] at ha;cases ha
 ·have hr:g.rules[k]?=some r:=hr;rw[ja hr] at ha;have hm:=A2 hr;have h3:=(hs.ok r (gM hr)).2.1;show Bd.Pd (xI g) g.start (((r.right.take d).map ff).reverse++v) n;obtain⟨left,right⟩:=r;dsimp only at ha hm h3 hp ⊢
  match d,right,ha with
  | 0,y::l,ha=>
   obtain rfl:=BY ha;show Bd.Pd (xI g) g.start v n;exact .xG hp hm (by rfl)
  | 1,a::y::l,ha=>
   obtain rfl:=BY ha;exact .one hm (by rfl) hp
  | 2,a::b::y::l,ha=>
   obtain rfl:=BY ha;exact .two hm (by rfl) hp
  | d+3,a::b::c::l,ha=>
   have e:l=[]:=by
    simp only[R4] at h3;exact SE zo
   subst e;simp at ha
theorem LJ{g:ai}(hs:Small g){w:List Nat}{l:List Lr}(hl:∀z,z∈l↔yh g w z/\(0<z.dot\/z.az=g.rules.length)){n:Nat}(hp:Bd.Pd (xI g) g.start w n) :
  ∃x,fD g l x/\aQ g x=some ⟨false,n⟩:=by
 have ht:=hs.ae.2;have inv:∀{y:Sym} {m:Nat},ck g.ae g.au y->ff y=3+m->y=⟨false,m⟩:=λ{y m} hy e=>by
  obtain⟨a,n⟩:=y;unfold ck at hy;unfold ff at e;cases a<;>simp at e hy ⊢<;>omega
 induction hp with
 | start=>
  refine⟨⟨g.rules.length,0⟩,.base ((hl _).2 ⟨.inl ⟨rfl,.inl ⟨rfl,rfl⟩⟩,.inr rfl⟩),?_⟩;unfold aQ;dsimp only;rw[By rfl,By rfl]
 | @one z' m w' l' q hq e2 hp' _=>
  obtain⟨r',hr',rfl⟩:=RI.1 hq;obtain⟨k,hk,hk2⟩:=SJ hr';have hk3:g.rules[k]?=some r':=by rw[gE hk,hk2]
  obtain⟨left,right⟩:=r'
  match right,e2 with
  | a::y::t,e2=>
   simp only[JN,R1] at e2;have hy:=inv (hs.sym hk3 (d:=1) rfl) e2.2.1;subst hy;refine⟨⟨k,1⟩,.base ((hl _).2 ⟨.inr ⟨_,hk3,by simp,w',?_,hp'⟩,.inl (by simp)⟩),?_⟩
   ·rw[<-e2.1];simp
   ·rw[ja hk3];rfl
 | @two y' z' m w' l' q hq e2 hp' _=>
  obtain⟨r',hr',rfl⟩:=RI.1 hq;obtain⟨k,hk,hk2⟩:=SJ hr';have hk3:g.rules[k]?=some r':=by rw[gE hk,hk2]
  obtain⟨left,right⟩:=r'
  match right,e2 with
  | a::b::y::t,e2=>
   simp only[JN,R1] at e2;have hy:=inv (hs.sym hk3 (d:=2) rfl) e2.2.2.1;subst hy;refine⟨⟨k,2⟩,.base ((hl _).2 ⟨.inr ⟨_,hk3,by simp,w',?_,hp'⟩,.inl (by simp)⟩),?_⟩
   ·rw[<-e2.1,<-e2.2.1];simp
   ·rw[ja hk3];rfl
 | @xG m w' l' q hp' hq e2 ih=>
  obtain⟨x,hx,hax⟩:=ih hl;obtain⟨r',hr',rfl⟩:=RI.1 hq;obtain⟨k,hk,hk2⟩:=SJ hr';have hk3:g.rules[k]?=some r':=by rw[gE hk,hk2]
  refine⟨⟨k,0⟩,.more hx hax hk3 rfl,?_⟩;obtain⟨left,right⟩:=r'
  match right,e2 with
  | y::t,e2=>
   simp only[JN,R1] at e2;have hy:=inv (hs.sym hk3 (d:=0) rfl) e2.1;subst hy;rw[ja hk3];rfl
theorem Fm{g:ai}(hs:Small g){w:List Nat}{l:List Lr}(hl:∀z,z∈l↔yh g w z/\(0<z.dot\/z.az=g.rules.length))(z:Lr):fD g l z↔yh g w z:=by
 constructor
 ·intro h
  induction h with
  | base h=>exact((hl _).1 h).1
  | @more x n k r hx ha hr hn ih=>
   subst hn;exact .inr ⟨r,hr,R6 _,w,by simp,ih.pd hs ha⟩
 ·intro h;by_cases h0:0<z.dot\/z.az=g.rules.length
  ·exact .base ((hl z).2 ⟨h,h0⟩)
  ·rcases h with ⟨e,_⟩ | ⟨r,hr,_,v,e,hp⟩
   ·exact absurd (.inr e) h0
   ·have hd:z.dot=0:=by omega
    rw[hd] at e;simp only[List.take_zero,SQ,List.reverse_nil,UL] at e;subst e;obtain⟨x,hx,ha⟩:=LJ hs hl hp;obtain⟨k,d⟩:=z;have hd:d=0:=hd;subst hd;exact .more hx ha hr rfl
def KC(g:ai)(w:List Nat)(st:List Lr):Prop:=iC st/\∀z,z∈st↔yh g w z
theorem rh{g:ai}{k:Nat}{r:bW}(h:g.rules[k]?=some r):k≠g.rules.length:=by
 have:=(gS h).1;omega
theorem Hq{g:ai}(hs:Small g):KC g [] (lX g):=by
 refine⟨mM _ _,λz=>?_⟩;unfold lX;rw[dm js];refine Fm hs (λz=>?_) z;rw[RK];constructor
 ·rintro rfl;exact⟨.inl ⟨rfl,.inl ⟨rfl,rfl⟩⟩,.inr rfl⟩
 ·rintro⟨h,h0⟩;obtain⟨k,d⟩:=z;rcases h with ⟨e,⟨e2,_⟩ | ⟨_,e2⟩⟩ | ⟨r,hr,hd,v,e,hp⟩
  ·have e:k=g.rules.length:=e;have e2:d=0:=e2;rw[e,e2]
  ·cases e2
  ·have h1:=congrArg List.length e;simp only[UJ,RP,List.length_reverse,RL,Sm] at h1;have hd:d<=r.right.length:=hd;rcases h0 with h0 | h0
   ·have h0:0<d:=h0;have h1:0=min d r.right.length+v.length:=h1;omega
   ·exact absurd h0 (rh hr)
theorem HV{g:ai}(hs:Small g){w:List Nat}{st:List Lr}(h:KC g w st){y:Sym}(hy:ck g.ae g.au y):KC g (ff y::w) (fP g (fz g st y)):=by
 refine⟨mM _ _,λz=>?_⟩;rw[dm λx hx=>(gi x hx).1];refine Fm hs (λz=>?_) z;rw[iI];constructor
 ·rintro⟨x,hx,ha,rfl⟩;refine⟨?_,.inl (Nat.succ_pos _)⟩;obtain⟨k,d⟩:=x;rcases (h.2 _).1 hx with ⟨e,h⟩ | ⟨r,hr,hd,v,e,hp⟩
  ·have e:k=g.rules.length:=e;subst e;unfold aQ at ha;dsimp only at ha;rw[By rfl] at ha;rcases h with ⟨e,rfl⟩ | ⟨e,_⟩
   ·have e:d=0:=e;subst e;rw[By rfl] at ha;obtain rfl:=BY ha;exact .inl ⟨rfl,.inr ⟨rfl,rfl⟩⟩
   ·have e:d=1:=e;subst e;rw[AT (by decide)] at ha;cases ha
  ·have hr:g.rules[k]?=some r:=hr;rw[ja hr] at ha;have hlt:=(gS ha).1;refine .inr ⟨r,hr,by show d+1<=_;omega,v,?_,hp⟩;show ff y::w=((r.right.take (d+1)).map ff).reverse++v;rw[RZ,ha,Si,List.reverse_append,e];rfl
 ·rintro⟨h1,h0⟩;obtain⟨k,d⟩:=z;rcases h1 with ⟨e,⟨_,e2⟩ | ⟨e1,e2⟩⟩ | ⟨r,hr,hd,v,e,hp⟩
  ·cases e2
  ·have e:k=g.rules.length:=e;have e1:d=1:=e1;subst e e1;simp only[R1] at e2;have hy2:y=⟨false,g.start⟩:=y5 hs.ae.2 hy (show ck g.ae g.au ⟨false,g.start⟩ from hs.start) e2.1;subst hy2;refine⟨⟨g.rules.length,0⟩,(h.2 _).2 (.inl ⟨rfl,.inl ⟨rfl,e2.2⟩⟩),?_,rfl⟩;unfold aQ;dsimp only;rw[By rfl,By rfl]
  ·have hr:g.rules[k]?=some r:=hr;have hd:d<=r.right.length:=hd;cases d with
   | zero=>
    rcases h0 with h0 | h0
    ·exact absurd h0 (Tr _)
    ·exact absurd h0 (rh hr)
   | succ d=>
    have e:ff y::w=((r.right.take (d+1)).map ff).reverse++v:=e;obtain⟨y',hy'⟩:∃y',r.right[d]?=some y':=⟨_,gE zo⟩;rw[RZ,hy',Si,List.reverse_append] at e;have e:ff y::w=ff y'::(((r.right.take d).map ff).reverse++v):=e;simp only[R1] at e;have:=y5 hs.ae.2 hy (hs.sym hr hy') e.1;subst this;exact⟨⟨k,d⟩,(h.2 _).2 (.inr ⟨r,hr,by show d<=_;omega,v,e.2,hp⟩),by rw[ja hr];exact hy',rfl⟩
theorem yh.to{g:ai}(hs:Small g){w:List Nat}{k d:Nat}{r:bW}(hr:g.rules[k]?=some r)(h:yh g w ⟨k,d⟩)(h0:0<d) :
  (d=1/\Bd.I1 (xI g) g.start w (r.left,r.right.map ff))\/(d=2/\Bd.I2 (xI g) g.start w (r.left,r.right.map ff))\/(d=3/\Bd.I3 (xI g) g.start w (r.left,r.right.map ff)):=by
 rcases h with ⟨e,_⟩ | ⟨r',hr',hd,v,e,hp⟩
 ·exact absurd e (rh hr)
 ·rw[hr] at hr';obtain rfl:=BY hr';have h3:=(hs.ok r (gM hr)).2.1;obtain⟨left,right⟩:=r;dsimp only at e hd h3 hp ⊢;subst e
  match d,right,hd,h0 with
  | 1,a::t,_,_=>exact .inl ⟨rfl,⟨_,rfl⟩,hp⟩
  | 2,a::b::t,_,_=>exact .inr (.inl ⟨rfl,⟨_,rfl⟩,hp⟩)
  | 3,a::b::c::t,_,_=>exact .inr (.inr ⟨rfl,⟨_,rfl⟩,hp⟩)
  | d+4,right,hd,_=>exact absurd hd zo
theorem yh.Re{g:ai}{w:List Nat}{k:Nat}{r:bW}(hr:g.rules[k]?=some r)(h:Bd.I1 (xI g) g.start w (r.left,r.right.map ff)):yh g w ⟨k,1⟩:=by
 match w,h with
 | z::v,⟨⟨l,e⟩,hp⟩=>
  obtain⟨left,right⟩:=r
  match right,e with
  | a::t,e=>
   simp only[JN,R1] at e;exact .inr ⟨_,hr,by simp,v,by rw[<-e.1];simp,hp⟩
theorem yh.QL{g:ai}{w:List Nat}{k:Nat}{r:bW}(hr:g.rules[k]?=some r)(h:Bd.I2 (xI g) g.start w (r.left,r.right.map ff)):yh g w ⟨k,2⟩:=by
 match w,h with
 | z::y::v,⟨⟨l,e⟩,hp⟩=>
  obtain⟨left,right⟩:=r
  match right,e with
  | a::b::t,e=>
   simp only[JN,R1] at e;exact .inr ⟨_,hr,by simp,v,by rw[<-e.1,<-e.2.1];simp,hp⟩
theorem yh.Rl{g:ai}{w:List Nat}{k:Nat}{r:bW}(hr:g.rules[k]?=some r)(h:Bd.I3 (xI g) g.start w (r.left,r.right.map ff)):yh g w ⟨k,3⟩:=by
 match w,h with
 | z::y::x::v,⟨⟨l,e⟩,hp⟩=>
  obtain⟨left,right⟩:=r
  match right,e with
  | a::b::c::t,e=>
   simp only[JN,R1] at e;exact .inr ⟨_,hr,by simp,v,by rw[<-e.1,<-e.2.1,<-e.2.2.1];simp,hp⟩
theorem fD.KK{g:ai}{l1 l2:List Lr}(h:∀z∈l1,z∈l2){z:Lr}(hz:fD g l1 z):fD g l2 z:=by
 induction hz with
 | base hx=>exact .base (h _ hx)
 | more _ ha hr hn ih=>exact .more ih ha hr hn
theorem BK{g:ai}(hs:Small g){w w':List Nat}{st st':List Lr}(h:KC g w st)(h':KC g w' st')(n0:w≠[])(n1:w≠[3+g.start])
  (hS:∀r∈xI g,(Bd.I1 (xI g) g.start w r->Bd.I1 (xI g) g.start w' r)/\(Bd.I2 (xI g) g.start w r->Bd.I2 (xI g) g.start w' r)/\(Bd.I3 (xI g) g.start w r->Bd.I3 (xI g) g.start w' r)) :
  ∀z,z∈st->z∈st':=by
 have hl:∀{w:List Nat} {st:List Lr},KC g w st->∀z,z∈st.filter (λz=>decide (0<z.dot\/z.az=g.rules.length))↔yh g w z/\(0<z.dot\/z.az=g.rules.length):=λ{w st} h z=>by
  rw[RJ,h.2,Su]
 intro z hz;have h1:=(Fm hs (hl h) z).2 ((h.2 z).1 hz);refine(h'.2 z).2 ((Fm hs (hl h') z).1 (h1.KK λx hx=>?_));obtain⟨hi,h0⟩:=(hl h x).1 hx;obtain⟨k,d⟩:=x;have hk:k≠g.rules.length:=by
  intro e;rcases hi with ⟨_,⟨_,e2⟩ | ⟨_,e2⟩⟩ | ⟨r,hr,_⟩
  ·exact n0 e2
  ·exact n1 e2
  ·exact rh hr e
 have hd:0<d:=by
  rcases h0 with h0 | h0
  ·exact h0
  ·exact absurd h0 hk
 obtain⟨r,hr⟩:∃r,g.rules[k]?=some r:=by
  rcases id hi with ⟨e,_⟩ | ⟨r,hr,_⟩
  ·exact absurd e hk
  ·exact⟨r,hr⟩
 obtain⟨s1,s2,s3⟩:=hS _ (A2 hr);refine(hl h' _).2 ⟨?_,.inl hd⟩;rcases hi.to hs hr hd with ⟨rfl,hj⟩ | ⟨rfl,hj⟩ | ⟨rfl,hj⟩
 ·exact yh.Re hr (s1 hj)
 ·exact yh.QL hr (s2 hj)
 ·exact yh.Rl hr (s3 hj)
def uc(g:ai)(st:List Lr):Prop:=∃w,KC g w st/\(w=[]\/∃z,yh g w z/\0<z.dot)
theorem sG{α:Type}:∀{l:List α},l.Nodup->(∀a∈l,∀b∈l,a=b)->l.length<=1
 | [],_,_=>by simp
 | [_],_,_=>by simp
 | a::b::l,hn,h=>by
  exfalso;have:=h a me b (If _ me);subst this;exact(SM.1 hn).1 me
theorem Eg{g:ai}(hs:Small g){bz:List (List Lr)}(hn:bz.Nodup)(hp:∀st∈bz,uc g st):bz.length<=400:=by
 classical
 let f:List Lr->List Nat:=λst=>if h:uc g st then Classical.choose h else [];have hf:∀st∈bz,KC g (f st) st/\(f st=[]\/∃z,yh g (f st) z/\0<z.dot):=λst h=>by
  have h1:=hp st h;show KC g (if h:uc g st then Classical.choose h else []) st/\((if h:uc g st then Classical.choose h else [])=[]\/∃z,yh g (if h:uc g st then Classical.choose h else []) z/\0<z.dot);rw[dif_pos h1];exact Classical.choose_spec h1
 let c:List Lr->Nat:=λst=>if f st=[] then 0 else if f st=[3+g.start] then 1 else 2
 have hc:=Bd.parts c [0,1,2] bz (λst _=>by
  show (if f st=[] then 0 else if f st=[3+g.start] then 1 else 2)∈[0,1,2];split
  ·simp
  ·split<;>simp)
 have hone:∀w k,(∀st∈bz,c st=k->f st=w)->(bz.filter λst=>c st=k).length<=1:=λw k hk=>by
  refine sG (hn.filter _) λa ha b hb=>?_;rw[RJ,Su] at ha hb;obtain⟨sa,ma⟩:=(hf a ha.1).1;obtain⟨sb,mb⟩:=(hf b hb.1).1;rw[hk a ha.1 ha.2] at ma;rw[hk b hb.1 hb.2] at mb;exact oG sa sb λz=>by rw[ma,mb]
 have h0:=hone [] 0 (λst _ h=>by
  have h:(if f st=[] then 0 else if f st=[3+g.start] then 1 else 2)=0:=h;split at h
  ·assumption
  ·split at h<;>cases h)
 have h1:=hone [3+g.start] 1 (λst _ h=>by
  have h:(if f st=[] then 0 else if f st=[3+g.start] then 1 else 2)=1:=h;split at h
  ·cases h
  ·split at h
   ·assumption
   ·cases h)
 have hk2:∀st,c st=2->f st≠[]/\f st≠[3+g.start]:=λst h=>by
  have h:(if f st=[] then 0 else if f st=[3+g.start] then 1 else 2)=2:=h;split at h
  ·cases h
  ·split at h
   ·cases h
   ·exact⟨by assumption,by assumption⟩
 have h2:(bz.filter λst=>c st=2).length<=398:=by
  have G:Bd.bP (xI g) g.start ((bz.filter λst=>c st=2).map f):=by
   refine⟨hs.QO,λw hw=>?_,?_⟩
   ·obtain⟨st,hst,rfl⟩:=RI.1 hw;rw[RJ,Su] at hst;obtain⟨n0,n1⟩:=hk2 st hst.2;obtain⟨_,h⟩:=hf st hst.1;rcases h with h | ⟨⟨k,d⟩,hz,hd⟩
    ·exact absurd h n0
    ·rcases id hz with ⟨_,⟨_,e⟩ | ⟨_,e⟩⟩ | ⟨r,hr,_⟩
     ·exact absurd e n0
     ·exact absurd e n1
     ·refine⟨_,A2 hr,?_⟩;rcases hz.to hs hr hd with ⟨_,h⟩ | ⟨_,h⟩ | ⟨_,h⟩
      ·exact .inl h
      ·exact .inr (.inl h)
      ·exact .inr (.inr h)
   ·rw[TC];refine List.Pairwise.imp_of_mem (λ{a b} ha hb hab hS=>hab ?_) (hn.filter _);rw[RJ,Su] at ha hb;obtain⟨a0,a1⟩:=hk2 a ha.2;obtain⟨b0,b1⟩:=hk2 b hb.2;have ga:=(hf a ha.1).1;have gb:=(hf b hb.1).1;exact oG ga.1 gb.1 λz=>⟨BK hs ga gb a0 a1 (λr hr=>⟨(hS r hr).1.1,(hS r hr).2.1.1,(hS r hr).2.2.1⟩) z,
     BK hs gb ga b0 b1 (λr hr=>⟨(hS r hr).1.2,(hS r hr).2.1.2,(hS r hr).2.2.2⟩) z⟩
  have:=G.Ow;rw[RL] at this;exact this
 simp only[JN,SQ,SG,U5] at hc;omega
theorem yQ{α:Type}[DecidableEq α]{most:Nat}{step:α->List (Option α)}{first:α}{P:α->Prop}(hfew:∀bz:List α,bz.Nodup->(∀s∈bz,P s)->bz.length<=most)
  (hstep:∀s,P s->∀s',some s'∈step s->P s'):∀(f i:Nat) {bz:List α} {rows:List (List Int)},ou most step first i bz rows->(∀s∈bz,P s)->most<f+i->
  ∃r,mh most step f i bz rows=some r
 | 0,i,bz,rows,h,_,h1=>by have:=h.le;have:=h.qL;omega
 | f+1,i,bz,rows,h,hP,h1=>by
  unfold mh;split
  ·exact⟨_,rfl⟩
  ·rename_i st hst;obtain⟨_,h2,h3,_⟩:=lh (step st) bz;have hP2:∀s∈(bZ bz (step st)).1,P s:=λs hs=>by
    rcases h3 s hs with h4 | h4
    ·exact hP s h4
    ·exact hstep st (hP st (gM hst)) s h4
   have hm:=hfew _ (h2 h.nodup) hP2;rw[By hm];exact yQ hfew hstep f (i+1) (h.next hst hm) hP2 zo
theorem D3{g:ai}(hs:Small g):∃I rows,kI g=some (I,rows):=by
 have h:=yQ (most:=400) (step:=sx g) (first:=lX g) (P:=uc g) (λbz hn hp=>Eg hs hn hp) (λs hp s' hs'=>by
  obtain⟨y,hy,e⟩:=RI.1 hs';split at e
  ·cases e
  ·rename_i hk;obtain rfl:=BY e;obtain⟨k,hk1,hk2⟩:=SJ hy;have hy2:=(Db (g:=g) (k:=k) (y:=y) (by rw[gE hk1,hk2])).1;obtain⟨w,hw,_⟩:=hp;have hn:=HV hs hw hy2;refine⟨_,hn,.inr ?_⟩;cases hkn:fz g s y with
   | nil=>exact absurd hkn hk
   | cons z t=>
    have hz:z∈fz g s y:=by rw[hkn];exact RR ..
    exact⟨z,(hn.2 z).1 ((dm λx hx=>(gi x hx).1).2 (.base hz)),(gi z hz).2⟩) 401 0
  (ou.begin (sx g) (lX g) (by decide)) (λs h=>by
   rw[RK] at h;subst h;exact⟨[],Hq hs,.inl rfl⟩) zo
 obtain⟨⟨I,rows⟩,h⟩:=h;exact⟨I,rows,h⟩
theorem Ox{p:Prop} (h:p:=by
 refine AW.seq (AW.dp ?_);refine WT.cy Z Z Z Z Z Z (λi2 hi2=>?_);refine WT.aK hT Z Z Z Z Z Z (λi4 hi4=>?_);refine aw ?_;have hfo:=kY F hL g hg hr hw hw12 hw2;unfold ak at hfo;refine WT.cO Tryz.func20 Z Z Z Z Z Z hfo (λF1 v hF1 hv=>?_);obtain⟨E,hE,hv⟩:=hv;obtain⟨fa,fn,fc,fr,fe,rfl⟩:=eQ hv;refine aw ?_;exact AW.ret ⟨_,[],⟨_,_,⟨_,rfl,λG h0 s0=>br (s0.has (p:=0) rfl me) (bO hT rfl)⟩,⟨_,_,rfl,rfl,rfl⟩,rfl⟩,bY,rfl,E,hE,hv⟩):p:=h
theorem vI(F:ar)(hL:Laid F)(g:ai)(hg:Valid g){ga:Option Addr}{gm gc:Nat}(hr:bj cC F ga gm gc g.rules){b:Option Addr}{n d:Nat}{w:List Nat}(hw:bj dD F b n d w)(hw12:w.length<=12)(hw2:∀t∈w,t<g.ae) :
  Abs.Spec CC 21 [.agg ⟨ak g ga gm gc⟩,.slice b n d] F [] λF' v o=>o=[]/\∃E,eK g w E/\fw g w E F' v:=by
 unfold ak;refine Abs.Spec.fn (n:=11) Tryz.func21 rfl rfl λown=>?_;exact Ox
theorem rR(F:ar)(hL:Laid F)(g:ai)(hg:Valid g){ga:Option Addr}{gm gc:Nat}(hr:bj cC F ga gm gc g.rules){b:Option Addr}{n d:Nat}{w:List Nat}(hw:bj dD F b n d w)(hw12:w.length<=12)(hw2:∀t∈w,t<g.ae) :
  Abs.Spec CC 22 [.agg ⟨ak g ga gm gc⟩,.slice b n d] F [] λF' v o=>o=[]/\∃E,eK g w E/\fw g w E F' v:=by
 unfold ak;refine Abs.Spec.fn (n:=11) Tryz.func22 rfl rfl λown=>?_;exact Ox
theorem fw.uz{g:ai}{w:List Nat}{E:List (List Nat)}{F G:ar}{v:Value}(h:fw g w E F v)(hF:ar.le F G):fw g w E G v:=by
 rcases h with ⟨s,a,n,c,r,h1,h2,h3,h4⟩ | h
 ·refine .inl ⟨s,a,n,c,r,h1,h2,?_,h4⟩;rcases h3 with ⟨h5,h6⟩ | ⟨h5,S,a2,n2,c2,h6,hK,hA⟩
  ·exact .inl ⟨h5,h6⟩
  ·exact .inr ⟨h5,S,a2,n2,c2,h6,hK,hA.mono hF⟩
 ·exact .inr h
theorem uS(ok:CC.Ok Tryz.prog)(fok:bS CC Tryz.prog)(F:ar)(hL:Laid F){a b:Option Addr}{m n c d:Nat}{l w0:List Int}(hl:bj iF F a m c l)(hw0:bj iF F b n d w0)(hm:n<=9223372036854775807) :
  cJ CC Tryz.prog 5 [.slice a m c,.slice b n d] F [] λ_ v o=>o=[]/\v=.bool true:=by
 refine cJ.fn (n:=84) ok Tryz.func5 rfl rfl λown=>?_;refine bl.dp ok fok ?_;refine aj ?_;refine bl.dp ok fok ?_;refine aj ?_;refine WT.cO Tryz.func14 Z Z Z Z Z Z (Gl _ hl hw0 hm 9 (by decide)) (λF1 v hF1 hv=>?_);obtain⟨g,ga,gm,gc,wa,wn,wc,w,rfl,hg,hr,hw,hw1,hw2⟩:=hv;have hL:=hL.mono hF1;have hgv:=hg.valid;have hgt:=hg.ae;have hwl:=hw.len;obtain⟨I,rows,hI⟩:=D3 hg;have hst:cZ g 1=some (kP g I (λ_=>nP g),rows):=by unfold cZ;rw[AT (by decide),hI];rfl
 generalize kP g I (λ_=>nP g)=S at hst;unfold ak;refine aj ?_;refine WT.aK hT Z Z Z Z Z Z (λi5 hi5=>?_);refine aj ?_;refine bl.dp ok fok ?_;refine aj ?_;have h1:=kY F1 hL g hgv hr hw zo hw2;unfold ak at h1;refine WT.cO Tryz.func20 Z Z Z Z Z Z h1 (λF2 v hF2 hv=>?_);obtain⟨E,hE,hv1⟩:=hv;obtain⟨a1,n1,c1,r1,e1,rfl⟩:=eQ hv1;have hL:=hL.mono hF2;have hr:=hr.mono hF2;have hw:=hw.mono hF2;refine aj ?_;refine WT.aK hT Z Z Z Z Z Z (λi6 hi6=>?_);refine aj ?_;refine bl.dp ok fok ?_;refine aj ?_
 have h2:=vI F2 hL g hgv hr hw zo hw2;unfold ak at h2;refine WT.cO Tryz.func21 Z Z Z Z Z Z h2 (λF3 v hF3 hv=>?_);obtain⟨E2,hE2,hv2⟩:=hv;obtain rfl:=n6 hE hE2;obtain⟨a2,n2,c2,r2,e2,rfl⟩:=eQ hv2;have hL:=hL.mono hF3;have hr:=hr.mono hF3;have hw:=hw.mono hF3;refine aj ?_;refine WT.aK hT Z Z Z Z Z Z (λi8 hi8=>?_);refine aj ?_;refine bl.dp ok fok ?_;refine aj ?_;have h3:=rR F3 hL g hgv hr hw zo hw2;unfold ak at h3;refine WT.cO Tryz.func22 Z Z Z Z Z Z h3 (λF4 v hF4 hv=>?_);obtain⟨E3,hE3,hv3⟩:=hv
 obtain rfl:=n6 hE hE3;obtain⟨a3,n3,c3,r3,e3,rfl⟩:=eQ hv3;have hL:=hL.mono hF4;have hr:=hr.mono hF4;have hw:=hw.mono hF4;refine aj ?_;refine WT.aK hT Z Z Z Z Z Z (λi10 hi10=>?_);refine aj ?_;refine bl.seq (bl.region (er.take ok fok 2 ?_));refine aj ?_;have h4:=nF ok fok F4 hL g hgv zo hr hw zo hw2 hst;unfold ak at h4;refine er.call ok rfl (λ_=>rfl) h4 (NO _) (λF5 v o hF5 hv=>?_);obtain⟨rfl,E4,hE4,hv4⟩:=hv;obtain rfl:=n6 hE hE4;obtain⟨a4,n4,c4,r4,e4,rfl⟩:=eQ hv4;have hL:=hL.mono hF5;refine er.all ok fok ?_
 refine aj ?_;refine WT.aK hT Z Z Z Z Z Z (λi12 hi12=>?_);refine aj ?_;have hp2:=mN hgv zo (hv1.uz (((hF3.trans hF4).trans hF5))) (hv2.uz (hF4.trans hF5));have hp3:=mN hgv zo (hv1.uz (((hF3.trans hF4).trans hF5))) (hv3.uz hF5);have hp4:=mN hgv zo (hv1.uz (((hF3.trans hF4).trans hF5))) hv4;obtain⟨rfl,rfl,rfl,hn,N2,hN2,hA2,hB2⟩:=hp2;obtain⟨rfl,rfl,rfl,_,N3,hN3,hA3,hB3⟩:=hp3;obtain⟨rfl,rfl,rfl,_,N4,hN4,hA4,hB4⟩:=hp4;refine bl.seq (bl.region (er.take ok fok 8 ?_));refine WT.a6 Tryz.func24 Z Z Z Z Z Z (Abs.Spec.fact Z hL) (λv hv=>?_);subst hv
 refine aj ?_;refine WT.a6 Tryz.func25 Z Z Z Z Z Z (Abs.Spec.fact Z hL) (λv hv=>?_);subst hv;refine aj ?_;refine WT.a6 Tryz.func26 Z Z Z Z Z Z (Abs.Spec.fact Z hL) (λv hv=>?_);subst hv;refine aj ?_;refine er.call ok rfl (λ_=>rfl) (Bg ok fok F5 hL) (NO _) (λF6 v o hF6 hv=>?_);obtain⟨rfl,rfl⟩:=hv;refine er.all ok fok ?_;refine aj ?_;refine WT.split 59 Z (λ_=>?_) (λh=>(by simp at h));refine aj ?_;refine WT.split 64 Z (λ_=>?_) (λh=>(by simp at h));refine aj ?_;refine WT.split 69 Z (λ_=>?_) (λh=>(by simp at h));refine aj ?_
 refine WT.a6 Tryz.func27 Z Z Z Z Z Z (tT F6 hN2 hn (hA2.mono hF6) (hB2.mono hF6)) (λv hv=>?_);subst hv;refine aj ?_;refine WT.a6 Tryz.func27 Z Z Z Z Z Z (tT F6 hN3 hn (hA3.mono hF6) (hB3.mono hF6)) (λv hv=>?_);subst hv;refine aj ?_;refine WT.a6 Tryz.func27 Z Z Z Z Z Z (tT F6 hN4 hn (hA4.mono hF6) (hB4.mono hF6)) (λv hv=>?_);subst hv;refine aj ?_;refine bl.gC ok fok ?_;exact AW.ret ⟨_,[],⟨_,_,rfl,rfl,rfl⟩,bY,rfl,rfl⟩
end Go.Proofs.D