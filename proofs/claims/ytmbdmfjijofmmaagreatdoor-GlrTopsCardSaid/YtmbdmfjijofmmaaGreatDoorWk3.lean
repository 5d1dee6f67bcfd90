/-
  Walks: what functions of the program do, over the abstract machine.
-/
import Derived.Test.YtmbdmfjijofmmaaGreatDoorWk2
set_option linter.unusedVariables false
set_option maxRecDepth 20000
set_option maxHeartbeats 0
open Go Go.Abs Go.Proofs Go.Proofs.D
set_option linter.unusedVariables false
set_option maxRecDepth 20000
set_option maxHeartbeats 0
open Go Go.Abs Go.Proofs Go.Proofs.D
namespace Go.Proofs.D
def fu(g:af)(st:List bL)(row:List Int)(t:Nat):List (Nat×Nat):=
 (if t<g.ae then (match row[t]? with | some j=>if 0<=j then [(1,j.toNat)] else [] | none=>[]) else [])++
 st.filterMap λlk=>if aR g lk.item=none/\lk.set.testBit t=true then some (if lk.item.aA<g.rules.length then (2,lk.item.aA) else (3,0)) else none
structure Q9 where
 act:List (List (Nat×Nat))
 go:List (List Int)
 Qu:List (Nat×Nat×List (Nat×Nat))
def oZ(g:af)(S:List (List bL))(rows:List (List Int)):List (List (List (Nat×Nat))):=(List.range S.length).map λs=>(List.range (g.ae+1)).map λt=>fu g (S.getD s []) (rows.getD s []) t
noncomputable def cW(g:af)(method:Nat):Option (List (List bL)×List (List Int)):=
 if method=3 then I6 g else (kB g).map λa=>(kJ g a.1 (if method=1 then λ_=>nG g else rP g a.1 a.2),a.2)
theorem lS{g:af}(hg:Valid g){method:Nat}{S:List (List bL)}{rows:List (List Int)}(h:cW g method=some (S,rows)):gL g (S.map aP) rows/\o7 g (lP (S.map aP)) (qR S) (jm g rows):=by
 unfold cW at h;split at h
 ·exact⟨(qV h).1,MP hg h⟩
 ·cases hA:kB g with
  | none=>rw[hA] at h;cases h
  | some a=>
   obtain⟨I,rows0⟩:=a;rw[hA] at h;have e:=AT h;simp only[RJ] at e;obtain⟨rfl,rfl⟩:=e;rw[nu];refine⟨(kf hA).1,?_⟩;split
   ·exact MZ hg hA
   ·exact Ku hg hA
def FK:Nat×Nat->Act
 | (1,j)=>.shift j
 | (2,k)=>.red k
 | (3,_)=>.acc
 | _=>.no
theorem getD_some{α:Type}{l:List α}{i:Nat}{a d:α}(h:l[i]?=some a):l.getD i d=a:=by rw[BY,h];rfl
theorem rQ{g:af}{S:List (List bL)}{rows:List (List Int)}(hA:gL g (S.map aP) rows){s t:Nat}(hs:s<S.length)(ht:t<=g.ae)(p:Nat×Nat) :
  p∈fu g (S.getD s []) (rows.getD s []) t↔(FK p≠.no/\(p.1=3->p.2=0))/\yh g (lP (S.map aP)) (qR S) (jm g rows) s t (FK p):=by
 have hS:=gE hs;generalize S[s]=st at hS;have hSI:(S.map aP)[s]?=some (aP st):=oa hS;obtain⟨row,hrow⟩:=hA.rowAt hSI;rw[getD_some hS,getD_some hrow];unfold fu;rw[Rx,T0];have hgo:∀j,t<g.ae->(jm g rows s ⟨true,t⟩=some j↔row[t]?=some (j:Int)):=λj htt=>by
  unfold jm;rw[If (lI.2 (show bZ g.ae g.ak ⟨true,t⟩ from htt)),hrow];dsimp only;rw[show D5 g ⟨true,t⟩=t from rfl];cases hx:row[t]? with
  | none=>simp
  | some z=>
   dsimp only;split
   ·rename_i hz;constructor
    ·intro e;have:=AT e;congr 1;omega
    ·intro e;have:=AT e;congr 1;omega
   ·rename_i hz;constructor
    ·intro e;cases e
    ·intro e;have:=AT e;omega
 constructor
 ·rintro(h | ⟨⟨z,m⟩,hz,h⟩)
  ·split at h
   ·rename_i htt;split at h
    ·rename_i j hj;split at h
     ·rename_i hj0;rw[Rh.1 h];refine⟨⟨Act.noConfusion,λe=>by cases e⟩,.shift htt ((hgo _ htt).2 (by rw[hj];congr 1;omega))⟩
     ·cases h
    ·cases h
   ·cases h
  ·dsimp only at h;split at h
   ·rename_i hc;obtain⟨hc1,hc2⟩:=hc;have hzI:z∈aP st:=Rg.2 ⟨_,hz,rfl⟩;have hok:=hA.ok s _ hSI z hzI;have hit:lP (S.map aP) s z:=⟨_,hSI,hzI⟩;have hla:qR S s z t:=⟨st,m,hS,hz,hc2⟩;rw[bq,S8] at hc1;have hzd:z.dot=(aX g z.aA).length:=Nat.le_antisymm hok.2 hc1;obtain⟨Z,zd⟩:=z;dsimp only at hzd;split at h
    ·rename_i hlt;obtain rfl:=AT h;have hlt:Z<g.rules.length:=hlt;have hr:=gE hlt;refine⟨⟨Act.noConfusion,λe=>by cases e⟩,?_⟩;rw[cf hr] at hzd;subst hzd;exact .red hr hit hla
    ·rename_i hlt;obtain rfl:=AT h;have hzr:Z=g.rules.length:=by
      have:=hok.1;dsimp only at this hlt;omega
     subst hzr;rw[eB] at hzd;have hzd:zd=1:=hzd;subst hzd;exact⟨⟨Act.noConfusion,λ_=>rfl⟩,.acc hit hla⟩
   ·cases h
 ·rintro⟨⟨hne,h3⟩,h⟩;obtain⟨a,b⟩:=p;generalize hd:FK (a,b)=q at h hne;cases h with
  | @shift s' htt hgo'=>
   left;rw[If htt];rw[hgo _ htt] at hgo';rw[hgo'];dsimp only;rw[If zo];unfold FK at hd;split at hd<;>simp_all
  | @red k r hr hit hla=>
   right;obtain⟨st2,m,g1,g2,g3⟩:=hla;rw[hS] at g1;obtain rfl:=AT g1;have hk:=(gS hr).1;refine⟨_,g2,?_⟩;dsimp only;rw[If ⟨by rw[bq];show (aX g k)[r.right.length]?=none;rw[cf hr];exact Ry (AS _),g3⟩,If hk];unfold FK at hd;split at hd<;>simp_all
  | acc hit hla=>
   right;obtain⟨st2,m,g1,g2,g3⟩:=hla;rw[hS] at g1;obtain rfl:=AT g1;refine⟨_,g2,?_⟩;dsimp only;rw[If ⟨by rw[bq];show (aX g g.rules.length)[1]?=none;rw[eB];rfl,g3⟩,By (S4 _)];unfold FK at hd;split at hd<;>simp_all
def eQ(l:List UInt8):ByteArray:=⟨l.toArray⟩
theorem GX{a b:List UInt8}(h:eQ a=eQ b):a=b:=by
 have:=congrArg (λx:ByteArray=>x.data.toList) h;exact this
theorem lg(a b:List UInt8):eQ a++eQ b=eQ (a++b):=by
 apply ByteArray.ext;rw[ByteArray.data_append];unfold eQ;simp
theorem jO(a:List UInt8):(eQ a).size=a.length:=by unfold eQ ByteArray.size;simp
def tZ(x:UInt8):Prop:=48<=x.toNat/\x.toNat<=57
def fE(n:Nat):List UInt8:=if n<10 then [UInt8.ofNat (48+n)] else [UInt8.ofNat (48+n / 10),UInt8.ofNat (48+n % 10)]
theorem oD{n:Nat}(h:n<100):∀x∈fE n,tZ x:=by
 intro x hx;unfold fE at hx;unfold tZ;split at hx
 ·rw[Rh.1 hx,UInt8.toNat_ofNat'];omega
 ·rcases Rt.1 hx with rfl | hx
  ·rw[UInt8.toNat_ofNat'];omega
  ·rw[Rh.1 hx,UInt8.toNat_ofNat'];omega
theorem DX{a b:Nat}(ha:a<256)(hb:b<256)(h:UInt8.ofNat a=UInt8.ofNat b):a=b:=by
 have:=congrArg UInt8.toNat h;rw[UInt8.toNat_ofNat',UInt8.toNat_ofNat'] at this;omega
theorem yf{n m:Nat}(hn:n<100)(hm:m<100)(h:fE n=fE m):n=m:=by
 unfold fE at h;split at h<;>split at h
 ·have:=DX zo zo (SZ h);omega
 ·exact absurd (congrArg List.length h) (by simp)
 ·exact absurd (congrArg List.length h) (by simp)
 ·have h1:=DX zo zo (SZ h);have h2:=DX zo zo (SZ (Um h));omega
theorem sU:∀{a b r s:List UInt8} {c d:UInt8},(∀x∈a,tZ x)->(∀x∈b,tZ x)->¬tZ c->¬tZ d->a++c::r=b++d::s->a=b/\c=d/\r=s
 | [],[],r,s,c,d,_,_,_,_,h=>by
  exact⟨rfl,SZ h,Um h⟩
 | [],y::b,r,s,c,d,_,hb,hc,_,h=>by
  have:=SZ h;exact absurd (this▸hb y me) hc
 | x::a,[],r,s,c,d,ha,_,_,hd,h=>by
  have:=SZ h;exact absurd (this▸ha x me) hd
 | x::a,y::b,r,s,c,d,ha,hb,hc,hd,h=>by
  have h1:=SZ h;have h2:=Um h;obtain⟨h3,h4,h5⟩:=sU (λz hz=>ha z (I9 _ hz)) (λz hz=>hb z (I9 _ hz)) hc hd h2;exact⟨by rw[h1,h3],h4,h5⟩
theorem yG{c:UInt8}(h:c=46\/c=32\/c=59):¬tZ c:=by
 rcases h with rfl | rfl | rfl<;>(unfold tZ;decide)
def qC(x:Lr):List UInt8:=fE x.aA++46::fE x.dot
def dD{σ:Type}(key:σ->List UInt8):List σ->List UInt8
 | []=>[]
 | x::l=>key x++59::dD key l
theorem pD{σ:Type}(key:σ->List UInt8)(x:σ):∀l:List σ,dD key (l++[x])=dD key l++(key x++[59])
 | []=>by simp[dD]
 | y::l=>by simp[dD,pD key x l]
theorem yd{σ:Type}{key:σ->List UInt8}{P:σ->Prop}(h:∀x y r s,P x->P y->key x++59::r=key y++59::s->x=y/\r=s):∀{l m:List σ},(∀x∈l,P x)->(∀x∈m,P x)->dD key l=dD key m->l=m
 | [],[],_,_,_=>rfl
 | [],y::m,_,_,e=>by exact absurd (congrArg List.length e) (by simp[dD])
 | x::l,[],_,_,e=>by exact absurd (congrArg List.length e) (by simp[dD])
 | x::l,y::m,hl,hm,e=>by
  obtain⟨h1,h2⟩:=h x y _ _ (hl x me) (hm y me) e;rw[h1,yd h (λz hz=>hl z (I9 _ hz)) (λz hz=>hm z (I9 _ hz)) h2]
theorem Ff(x y:Lr)(c:UInt8)(r s:List UInt8)(hc:c=46\/c=32\/c=59)(hx:x.aA<100/\x.dot<100)(hy:y.aA<100/\y.dot<100)(h:qC x++c::r=qC y++c::s):x=y/\r=s:=by
 unfold qC at h;rw[RY,RY] at h;have h:fE x.aA++46::(fE x.dot++c::r)=fE y.aA++46::(fE y.dot++c::s):=h;obtain⟨h1,_,h2⟩:=sU (oD hx.1) (oD hy.1) (yG (.inl rfl)) (yG (.inl rfl)) h;obtain⟨h3,_,h4⟩:=sU (oD hx.2) (oD hy.2) (yG hc) (yG hc) h2;have e1:=yf hx.1 hy.1 h1;have e2:=yf hx.2 hy.2 h3;obtain⟨a,b⟩:=x;obtain⟨a',b'⟩:=y;simp only at e1 e2;subst e1 e2;exact⟨rfl,h4⟩
theorem FW{l m:List Lr}(hl:∀x∈l,x.aA<100/\x.dot<100)(hm:∀x∈m,x.aA<100/\x.dot<100)(h:dD qC l=dD qC m):l=m:=
 yd (P:=λx:Lr=>x.aA<100/\x.dot<100) (λx y r s hx hy e=>Ff x y 59 r s (.inr (.inr rfl)) hx hy e) hl hm h
theorem bytes_beq(x y:ByteArray):(x==y)=true↔x=y:=by
 constructor
 ·intro h;obtain⟨x⟩:=x;obtain⟨y⟩:=y;have:(x==y)=true:=h;congr 1;exact eq_of_beq this
 ·rintro rfl;obtain⟨x⟩:=x;show (x==x)=true;exact beq_self_eq_true x
theorem EM:CC.gQ 9=some .string:=j7 hT (r:=⟨9,.string,1,16,.string ByteArray.empty⟩) rfl rfl
def wF:om CC 9 (List UInt8) where
 key:=λl=>.string (eQ l)
 ok:=λl=>by
  unfold eW;simp only[EM];rfl
 eq:=λa b=>by
  have h:tK CC 8 9 (.string (eQ a)) (.string (eQ b))=some (eQ a==eQ b):=by
   unfold tK;simp only[EM];rfl
  by_cases e:a=b
  ·subst e;exact .inl ⟨rfl,by rw[h,(bytes_beq _ _).2 rfl]⟩
  ·have e2:(eQ a==eQ b)=false:=by
    cases hb:(eQ a==eQ b) with
    | false=>rfl
    | true=>exact absurd (GX ((bytes_beq _ _).1 hb)) e
   exact .inr ⟨e,by rw[h,e2]⟩
end Go.Proofs.D
set_option linter.unusedVariables false
set_option maxRecDepth 20000
set_option maxHeartbeats 0
open Go Go.Abs Go.Proofs Go.Proofs.D
namespace Go.Abs
section
variable {C:Ctx}{T:RT}{n:Nat}{k:bu}{F:ar}{own:a6}{ops rest:List Oper}{o:Oper}{Q:bu->ar->a6->List Rec->Prop}
theorem WT.Bj(hT:aO C T=true){t:TypeId}{xo lo hi:Operand}{s:ByteArray}{j m:Nat}{kd kd2:IntKind}{r:Row}(a b:Nat->Nat)(f:Nat->List UInt8)(hop:o.op=.slice t xo (some lo) (some hi) none)(hw:aE ops k o=some true){dst:Nat}(hdst:o.dst=some dst)(hn:Nat.blt dst n=true)
  (hx:aU C k xo=some (.string s)) (hl:aU C k lo=some (.int kd (a j:Nat))) (hh:aU C k hi=some (.int kd2 (b j:Nat))) (hr:rowOf T t=some r) (hd:r.d=.string) (hj:j<m)
  (htab:((List.range m).all λj=>Nat.ble (a j) (b j)&&Nat.ble (b j) s.size&&((s.extract (a j) (b j)).data.toList==f j))=true)
  (h:WT C n ops rest ((dst,.string ⟨(f j).toArray⟩)::k) F own (λk2 F2 own2 rs=>Q k2 F2 own2 (⟨F,own,F,own,[]⟩::rs))):WT C n ops (o::rest) k F own Q:=by
 have h1:=Sf.1 htab j (Rm.2 hj);simp only[IN,Sb] at h1;obtain⟨⟨h2,h3⟩,h4⟩:=h1;have h5:s.extract (a j) (b j)=⟨(f j).toArray⟩:=by
  apply ByteArray.ext;rw[<-h4]
 refine WT.still (l:=[]) hw (by rw[hop];simp only[aY,hx]) (λh0 _=>?_) (by rw[hdst,ay hn];exact h);rw[hop];have h6:lD (aU C k) none=some none:=rfl;simp only[aN,hx,lD,hl,hh,kM,j7 hT hr hd,cZ,RU];rw[If (Tp _),If (Tp _),Tz,Tz];simp only[h2,h3,TC,OF,h5,RU]
theorem WT.y8{t ty:TypeId}{xo yo:Operand}{a b:ByteArray}(hop:o.op=.binOp .add t xo yo ty)(hw:aE ops k o=some true){dst:Nat}(hdst:o.dst=some dst)(hn:Nat.blt dst n=true)
  (hx:aU C k xo=some (.string a)) (hy:aU C k yo=some (.string b)) (hs:a.size+b.size<=9223372036854775807)
  (h:WT C n ops rest ((dst,.string (a++b))::k) F own (λk2 F2 own2 rs=>Q k2 F2 own2 (⟨F,own,F,own,[]⟩::rs))):WT C n ops (o::rest) k F own Q:=by
 refine WT.still (l:=[]) hw (by rw[hop];simp only[aY,hx,hy];rfl) (λh0 _=>?_) (by rw[hdst,ay hn];exact h);rw[hop];have h2:Nat.ble (a.size+b.size) 9223372036854775807=true:=RP hs;simp only[aN,hx,hy,kQ,lT,h2,OF,RU]
end
end Go.Abs
namespace Go.Proofs.D
theorem NX:BinOp.mul≠.shl/\BinOp.mul≠.shr:=⟨λh=>(by cases h),λh=>(by cases h)⟩
theorem LJ{i:Nat}(h:2*i<=9223372036854775807):b9 .mul .i64 (i:Int) 2=some (.int .i64 ((2*i:Nat):Int)):=by
 simp only[b9];rw[wrap64 ⟨by omega,by omega⟩];congr 2;omega
theorem D3(F:ar)(i:Nat)(hi:i<100):Abs.Spec CC 242 [.int .i64 i] F [] λ_ v o=>o=[]/\v=.string (eQ (fE i)):=by
 refine Abs.Spec.fn (n:=15) Tryz.func242 rfl rfl λown=>?_;refine aj ?_;refine AW.cond Z (λh=>?_) (λh=>?_)
 ·have h:i<10:=by simp at h;omega
  refine aj ?_;refine WT.Bj hT (j:=i) (m:=10) (λj=>j) (λj=>j+1) fE Z Z Z Z Z Z Z Z Z h (by decide +kernel) ?_;refine aj ?_;exact AW.ret ⟨_,[],⟨_,_,rfl,rfl,rfl⟩,bU,rfl,rfl⟩
 ·have h:¬i<10:=by simp at h;omega
  refine aj ?_;refine WT.lB (v:=.int .i64 ((2*i:Nat):Int)) Z Z Z Z Z Z NX (LJ zo) ?_;refine aj ?_;refine WT.lB (v:=.int .i64 ((2*i:Nat):Int)) Z Z Z Z Z Z NX (LJ zo) ?_;refine aj ?_;refine WT.Bj hT (j:=i) (m:=100) (λj=>2*j) (λj=>2*j+2) (λj=>[UInt8.ofNat (48+j / 10),UInt8.ofNat (48+j % 10)]) Z Z Z Z Z Z Z Z Z hi (by decide +kernel) ?_;refine aj ?_;refine AW.ret ⟨_,[],⟨_,_,rfl,rfl,rfl⟩,bU,rfl,?_⟩;unfold fE;rw[By h];rfl
theorem vw(F:ar)(i:Nat)(hi:i<100):Abs.Spec CC 220 [.int .i64 i,.int .i64 10] F [] λ_ v o=>o=[]/\v=.string (eQ (fE i)):=by
 refine Abs.Spec.fn (n:=54) Tryz.func220 rfl rfl λown=>?_;refine aj ?_;refine AW.cond Z (λ_=>?_) (λh=>(by cases h));refine aj ?_;refine AW.cond Z (λ_=>?_) (λh=>(by simp at h;omega));refine aj ?_;refine WT.bN Tryz.func242 Z Z Z Z Z Z (D3 _ i hi) (λv hv=>?_);subst hv;refine aj ?_;exact AW.ret ⟨_,[],⟨_,_,rfl,rfl,rfl⟩,bU,rfl,rfl⟩
theorem De(F:ar)(i:Nat)(hi:i<100):Abs.Spec CC 191 [.int .i64 i] F [] λ_ v o=>o=[]/\v=.string (eQ (fE i)):=by
 refine Abs.Spec.fn (n:=5) Tryz.func191 rfl rfl λown=>?_;refine aj ?_;refine WT.bN Tryz.func220 Z Z Z Z Z Z (vw _ i hi) (λv hv=>?_);subst hv;refine aj ?_;exact AW.ret ⟨_,[],⟨_,_,rfl,rfl,rfl⟩,bU,rfl,rfl⟩
theorem xN(F:ar)(i:Nat)(hi:i<100):Abs.Spec CC 149 [.int .i64 i] F [] λ_ v o=>o=[]/\v=.string (eQ (fE i)):=by
 refine Abs.Spec.fn (n:=5) Tryz.func149 rfl rfl λown=>?_;refine aj ?_;refine WT.bN Tryz.func191 Z Z Z Z Z Z (De _ i hi) (λv hv=>?_);subst hv;refine aj ?_;exact AW.ret ⟨_,[],⟨_,_,rfl,rfl,rfl⟩,bU,rfl,rfl⟩
theorem ox(i:Nat):(fE i).length<=2:=by unfold fE;split<;>simp
theorem Cu(F:ar)(x:Lr)(hx:x.aA<100/\x.dot<100):Abs.Spec CC 148 [.agg ⟨[.int .i64 x.aA,.int .i64 x.dot]⟩] F [] λ_ v o=>o=[]/\v=.string (eQ (qC x)):=by
 have h1:=ox x.aA;have h2:=ox x.dot;refine Abs.Spec.fn (n:=11) Tryz.func148 rfl rfl λown=>?_;refine AW.seq (AW.du ?_);refine WT.cC Z Z Z Z Z Z (λi1 hi1=>?_);refine aj ?_;refine AW.draw (ps:=[(3,6),(5,2)]) Z Z ?_;refine aj ?_;refine WT.bN Tryz.func149 Z Z Z Z Z Z (xN _ x.aA hx.1) (λv hv=>?_);subst hv;refine WT.y8 Z Z Z Z Z Z (by rw[jO];show _+1<=_;omega) ?_;refine aj ?_;refine WT.bN Tryz.func149 Z Z Z Z Z Z (xN _ x.dot hx.2) (λv hv=>?_);subst hv
 refine WT.y8 Z Z Z Z Z Z (by rw[show (eQ (fE x.aA)++{ data:=#[46] }:ByteArray)=eQ (fE x.aA)++eQ [46] from rfl,lg,jO,jO,Rf];show _+1+_<=_;omega) ?_;refine aj ?_;refine⟨oF,?_⟩;refine AW.ret ⟨_,[],⟨_,_,rfl,rfl,rfl⟩,bU,rfl,?_⟩;show Value.string (eQ (fE x.aA)++eQ [46]++eQ (fE x.dot))=_;rw[lg,lg,RY];rfl
theorem Fc(x:Lr):(qC x).length<=5:=by
 have h1:=ox x.aA;have h2:=ox x.dot;unfold qC;simp only[Rf,RG];omega
def N3(g:af)(x:Lr):Prop:=x.aA<=g.rules.length/\x.dot<=(if x.aA=g.rules.length then 1 else ((g.rules[x.aA]?).map (·.right.length)).getD 0)
theorem eT.ok{g:af}{l:List Lr}(hl:∀x∈l,N3 g x){x:Lr}(h:eT g l x):N3 g x:=by
 induction h with
 | base h=>exact hl _ h
 | more _ _ h _ _=>exact⟨R9 (gS h).1,RC _⟩
structure Q0 where
 xs:List Lr
 a:Option Addr
 c:Nat
 B:List (Nat×aD)
structure P4 where
 a:Option Addr
 m:Nat
 c:Nat
 B:List (Nat×aD)
theorem JP{g:af}{j:Nat}(h:j<g.ae):(cu g).take (j+1)=(cu g).take j++[⟨true,j⟩]:=by
 have:(cu g)[j]?=some ⟨true,j⟩:=qq (y:=⟨true,j⟩) h;rw[Rk,this];rfl
theorem KC{g:af}{j:Nat}(h:j<g.ak):(cu g).take (g.ae+j+1)=(cu g).take (g.ae+j)++[⟨false,j⟩]:=by
 have:(cu g)[j+g.ae]?=some ⟨false,j⟩:=qq (y:=⟨false,j⟩) h;rw[TW] at this;rw[Rk,this];rfl
theorem yY(F:ar)(g:af)(hg:Valid g){a:Option Addr}{m c:Nat} :
  Abs.Spec CC 146 [.agg ⟨ai g a m c⟩] F [] λF' v o=>o=[]/\∃a' n' c',v=.slice a' n' c'/\bw fh F' a' n' c' (cu g):=by
 have hgt:=hg.range.ae;have hgn:=hg.range.ak;unfold ai;refine Abs.Spec.fn (n:=29) Tryz.func146 rfl rfl λown=>?_;refine AW.seq (AW.du ?_);refine WT.cC Z Z Z Z Z Z (λi1 hi1=>?_);refine aj ?_;refine AW.range (S:=P4) (λs=>[(3,.slice s.a s.m s.c)]) (λs=>s.B::[(i1,.cells false [.int .i64 g.ae,.int .i64 g.ak,.int .i64 g.start,.slice a m c])]::own) (λj s G=>dy fh G s.a s.m s.c s.B ((cu g).take j)) g.ae ⟨none,0,0,[]⟩
  Z Z Z Z Z Z Z Z Z zo rfl rfl (λ_=>rfl) (λ_=>rfl) sM (ah.flat (Rc _)) (dy.gq _ _) ?_ ?_
 ·intro j s F1 hF1 hj hb;have hbl:=hb.len;rw[RK,fI] at hbl;refine aj ?_;refine WT.bN Tryz.func115 Z Z Z Z Z Z (EJ _ _) (λv hv=>?_);subst hv;refine WT.bd hT Z Z Z Z Z Z Z Z Z Z Z Z Z Z (λi9 hi9=>?_);refine WT.bP (R:=fh) (ys:=[(⟨true,j⟩:Sym)]) hT 1 hb Z (λ_=>rfl) Z Z Z Z Z Z Z Z Z Z Z (λh0 s0=>bh hT s0 0 Z Z Z Z) (aF.single (R:=fh) (x:=⟨true,j⟩) rfl) Z (by decide) kq (λa3 c3 B3 hB3=>?_);refine aj ?_;exact⟨⟨a3,s.m+1,c3,B3⟩,sM,cy,by show dy fh _ _ _ _ _ ((cu g).take (j+1));rw[JP hj];exact hB3⟩
 ·intro s F1 hF1 hb;refine aj ?_;refine AW.range (S:=P4) (λs=>[(3,.slice s.a s.m s.c)]) (λs=>s.B::[(i1,.cells false [.int .i64 g.ae,.int .i64 g.ak,.int .i64 g.start,.slice a m c])]::own) (λj s G=>dy fh G s.a s.m s.c s.B ((cu g).take (g.ae+j))) g.ak ⟨s.a,s.m,s.c,s.B⟩
   Z Z Z Z Z Z Z Z Z zo rfl rfl (λ_=>rfl) (λ_=>rfl) sM oR hb ?_ ?_
  ·intro j s F2 hF2 hj hb;have hbl:=hb.len;rw[RK,fI] at hbl;refine aj ?_;refine WT.bN Tryz.func84 Z Z Z Z Z Z (qJ _ _) (λv hv=>?_);subst hv;refine WT.bd hT Z Z Z Z Z Z Z Z Z Z Z Z Z Z (λi9 hi9=>?_);refine WT.bP (R:=fh) (ys:=[(⟨false,j⟩:Sym)]) hT 1 hb Z (λ_=>rfl) Z Z Z Z Z Z Z Z Z Z Z (λh0 s0=>bh hT s0 0 Z Z Z Z) (aF.single (R:=fh) (x:=⟨false,j⟩) rfl) Z (by decide) kq (λa3 c3 B3 hB3=>?_);refine aj ?_;exact⟨⟨a3,s.m+1,c3,B3⟩,sM,cy,by show dy fh _ _ _ _ _ ((cu g).take (g.ae+j+1));rw[KC hj];exact hB3⟩
  ·intro s F2 hF2 hb;rw[No (by rw[fI];exact AS _)] at hb;refine AW.aw 0 Z Z (λF3 hF3 hB3=>?_);refine aj ?_;exact AW.ret ⟨_,[],⟨_,_,rfl,rfl,rfl⟩,bU,rfl,_,_,_,rfl,hb.frozen hF3 hB3⟩
noncomputable def Er(g:af)(st:List Lr)(y:Sym):Option (List Lr):=if ff g st y=[] then none else some (fD g (ff g st y))
theorem Fl{g:af}{st:List Lr}{y:Sym}{j:Nat}{x:Lr}(h:st[j]?=some x):ff g (st.take (j+1)) y=ff g (st.take j) y++(if aR g x=some y then [⟨x.aA,x.dot+1⟩] else []):=by
 unfold ff;rw[Rk,h,List.filterMap_append];congr 1;simp only[Option.toList_some,List.filterMap_cons,List.filterMap_nil];by_cases e:aR g x=some y
 ·rw[If e,If e]
 ·rw[By e,By e]
structure Ql where
 a:Option Addr
 m:Nat
 c:Nat
 B:List (Nat×aD)
 l:List Lr
theorem DN(F:ar)(g:af)(hg:Valid g){ig:Nat}{ro:Bool}{a:Option Addr}{m c:Nat}(hi:F ig=some (.cells ro (ai g a m c)))(hr:bw bK F a m c g.rules){b:Option Addr}{n d:Nat}{st:List Lr}(hst:bw dM F b n d st)(hn:n<=1000)(hok:∀x∈st,jK g x)(y:Sym)(hy:bZ g.ae g.ak y) :
  Abs.Spec CC 153 [.slice b n d,.agg ⟨[.bool y.term,.int .i64 y.n]⟩,.pointer (some ⟨ig,0,none⟩)] F [] λF' v o=>o=[]/\∃a' n' c' z s,v=.tuple ⟨[.slice a' n' c',.bool z]⟩/\bw dM F' a' n' c' s/\Er g st y=if z=true then some s else none:=by
 have hgr:=hg.range.rules;have hrl:=hr.len;have hsl:=hst.len;have hg4:∀r∈g.rules,r.right.length<=100:=λr h=>by have:=(hg.right r h).2.1;omega
 unfold ai at hi;obtain⟨yt,yn⟩:=y;refine Abs.Spec.fn (n:=46) Tryz.func153 rfl rfl λown=>?_;refine AW.seq (AW.du ?_);refine WT.cC Z Z Z Z Z Z (λi4 hi4=>?_);refine aj ?_;refine AW.range (S:=Ql) (λs=>[(7,.slice s.a s.m s.c)]) (λs=>s.B::[(i4,.cells false [.bool yt,.int .i64 yn])]::own) (λj s G=>dy dM G s.a s.m s.c s.B s.l/\s.l=ff g (st.take j) ⟨yt,yn⟩/\s.m<=j) n ⟨none,0,0,[],[]⟩
  Z Z Z Z Z Z Z Z Z zo rfl rfl (λ_=>rfl) (λ_=>rfl) sM (ah.flat (Rc _)) ⟨dy.gq _ _,rfl,AS _⟩ ?_ ?_
 ·intro j s F1 hF1 hj hP;obtain⟨hb,hsk,hsm⟩:=hP;have hst1:=hst.mono hF1;have hr1:=hr.mono hF1;have hi1:=hF1 _ _ hi;refine aj ?_;refine WT.bG hT hst1 Z Z Z Z Z Z Z Z Z zo (λx hxj b1 off ro1 cs lx hb1 hp1 hrel=>?_);obtain rfl:lx=_:=hrel;have hxo:=hok x (gM hxj);have hkt:=Fl (g:=g) (y:=⟨yt,yn⟩) hxj;refine aj ?_;refine WT.aI hT Z Z Z Z Z Z (λi9 hi9=>?_);refine aj ?_;have haf:=lY F1 g hg4 hr1 zo x (by have:=hxo.1;omega);unfold ai at haf;refine WT.bN Tryz.func150 Z Z Z Z Z Z haf (λv hv=>?_);obtain⟨z,bo,rfl,hay,han⟩:=hv;obtain⟨zt,zn⟩:=z;refine aj ?_
  refine WT.aI hT Z Z Z Z Z Z (λi10 hi10=>?_);refine aj ?_;have hbl:=hb.len;refine WT.split 25 Z (λhbo=>?_) (λhbo=>?_)
  ·have hay:=hay hbo;refine aj ?_;refine AW.cond Z (λh=>?_) (λh=>?_)
   ·have e:(⟨zt,zn⟩:Sym)=⟨yt,yn⟩:=by
     simp only[Ue,IN,Sb] at h;obtain⟨h1,h2⟩:=h;subst h1;congr 1;omega
    rw[e] at hay;have hxd:x.dot<=100:=by
     have:=hxo.2;have h2:(aX g x.aA).length<=100:=by
      unfold aX;split
      ·simp
      ·cases hq:g.rules[x.aA]? with
       | none=>simp
       | some r=>exact hg4 r (gM hq)
     omega
    refine aj ?_;refine WT.bd hT Z Z Z Z Z Z Z Z Z Z Z Z Z Z (λi37 hi37=>?_);refine WT.bP (R:=dM) (ys:=[(⟨x.aA,x.dot+1⟩:Lr)]) hT 3 hb Z (λ_=>rfl) Z Z Z Z Z Z Z Z Z Z Z (λh0 s0=>bh hT s0 0 Z Z Z Z) (aF.single (R:=dM) (x:=⟨x.aA,x.dot+1⟩) rfl) Z (by decide) kq (λa3 c3 B3 hB3=>?_);refine aj ?_;refine⟨⟨a3,s.m+1,c3,B3,s.l++[⟨x.aA,x.dot+1⟩]⟩,sM,cy,hB3,?_,by dsimp only;omega⟩;show s.l++_=_;rw[hkt,If hay,hsk]
   ·have hno:¬aR g x=some ⟨yt,yn⟩:=λe=>by
     rw[hay] at e;have e:=AT e;simp only[Sym.mk.injEq] at e;rw[e.1,e.2] at h;simp at h
    refine aj ?_;refine⟨s,sM,cy,hb,?_,by omega⟩;rw[hkt,By hno,R0];exact hsk
  ·have han:=han hbo;have hno:¬aR g x=some ⟨yt,yn⟩:=λe=>by rw[han] at e;cases e
   refine aj ?_;refine AW.cond Z (λh=>(by cases h)) (λ_=>?_);refine aj ?_;refine⟨s,sM,cy,hb,?_,by omega⟩;rw[hkt,By hno,R0];exact hsk
 ·intro s F1 hF1 hP;obtain⟨hb,hsk,hsm⟩:=hP;rw[No zo] at hsk;have hbl:=hb.len;have hi1:=hF1 _ _ hi;refine AW.aw 0 Z Z (λF2 hF2 hB2=>?_);have hx:=hb.frozen hF2 hB2;have hi2:=hF2 _ _ hi1;have hkok:∀z∈s.l,z.aA<=g.rules.length:=λz hz=>by rw[hsk] at hz;exact(fK z hz).1.1
  refine aj ?_;have hcs:=qQ F2 g hg4 ((hr.mono hF1).mono hF2) zo hx zo hkok;unfold ai at hcs;refine WT.dH Tryz.func152 Z Z Z Z Z Z hcs (λF3 v hF3 hv=>?_);obtain⟨a8,m8,c8,zs,rfl,hz,hzm,hstr,hmem⟩:=hv;refine aj ?_;refine AW.ret ⟨_,[],⟨_,_,rfl,⟨_,_,rfl,rfl,rfl⟩,rfl⟩,bU,rfl,a8,m8,c8,_,zs,rfl,hz,?_⟩;unfold Er;by_cases e:ff g st ⟨yt,yn⟩=[]
  ·rw[If e,By];rw[hsk,e] at hbl;have:s.m=0:=hbl;simp[this]
  ·rw[By e,If]
   ·congr 1;refine(AZ (λz hz=>(fK z hz).1) hstr λz=>?_).symm;rw[hmem,hsk]
   ·have:0<s.m:=by
     rw[hbl,hsk];exact List.length_pos_iff.2 e
    exact decide_eq_true zo
structure QU where
 j:Nat
 a:Option Addr
 c:Nat
 B:List (Nat×aD)
theorem BI.some{T:Nat->Nat}{c:Int}(h:BI T c)(hc:c≠0):∃d,1<=T d:=by
 rcases h with ⟨n,⟨D,hD⟩,h2⟩ | ⟨h,_⟩
 ·refine⟨D,?_⟩;rw[hD D (AS _)];rcases Tb n with e | e
  ·subst e;exact absurd h2 (by simpa using hc)
  ·exact e
 ·exact h 1
theorem zR(F:ar){a:Option Addr}{m c:Nat}{xs:List Bool}(hx:bw cd F a m c xs)(hm:m<=1000000)(y:Bool) :
  Abs.Spec CC 113 [.slice a m c,.bool y] F [] λ_ v o=>o=[]/\v=.int .i64 (idxOf (λx=>decide (y=x)) xs):=by
 refine Abs.Spec.fn (n:=19) Tryz.func113 rfl rfl λown=>?_;have hxlen:=hx.len;refine au ?_;refine AW.range (S:=Unit) (λ_=>[]) (λ_=>_) (λj _ G=>∀z∈xs.take j,decide (y=z)=false) m () Z Z Z Z Z Z Z Z Z zo Z Z (λ_=>rfl) (λ_=>rfl) sM oR (by simp) ?_ ?_
 ·intro j _ F1 hF1 hj hP;have hx1:=hx.mono hF1;refine au ?_;refine WT.bG hT hx1 Z Z Z Z Z Z Z Z Z zo (λx hxj b1 off ro cs lx hb hp1 hrel=>?_);obtain rfl:lx=_:=hrel;refine au ?_;refine AW.cond Z (λhc=>?_) (λhc=>?_)
  ·refine au ?_;refine AW.ret ⟨_,[],⟨_,_,rfl,rfl,rfl⟩,bU,rfl,?_⟩;rw[qD hxj (by simp at hc;simp;exact hc) hP];rfl
  ·refine au ?_;exact⟨(),sM,cy,jh hxj hP (by simp at hc;simp;exact hc)⟩
 ·intro _ F1 hF1 hP;rw[No zo] at hP;refine au ?_;refine AW.ret ⟨_,[],⟨_,_,rfl,rfl,rfl⟩,bU,rfl,?_⟩;rw[mq hP];rfl
theorem qO(F:ar){a:Option Addr}{m c:Nat}{xs:List Bool}(hx:bw cd F a m c xs)(hm:m<=1000000)(y:Bool) :
  Abs.Spec CC 59 [.slice a m c,.bool y] F [] λ_ v o=>o=[]/\v=.bool (decide (y∈xs)):=by
 refine Abs.Spec.fn (n:=9) Tryz.func59 rfl rfl λown=>?_;refine au ?_;refine WT.bN Tryz.func113 Z Z Z Z Z Z (zR _ hx hm y) (λv hv=>?_);subst hv;refine au ?_;refine AW.ret ⟨_,[],⟨_,_,rfl,rfl,rfl⟩,bU,rfl,?_⟩;have:decide (idxOf (λx=>decide (y=x)) xs≥0)=decide (y∈xs):=by
  rw[jG,SH];simp
 rw[<-this];rfl
end Go.Proofs.D
set_option linter.unusedVariables false
set_option maxRecDepth 20000
set_option maxHeartbeats 0
open Go Go.Abs Go.Proofs Go.Proofs.D
namespace Go.Abs
section
variable {C:Ctx}{T:RT}{n:Nat}{k:bu}{F:ar}{own:a6}{ops rest:List Oper}{o:Oper}{Q:bu->ar->a6->List Rec->Prop}{args':List Value}
theorem WT.Kw{f:FuncId}{fn:Func}{fo:Operand}{as_:Array Operand}{ts:Array TypeId}{args args' first capt:List Value}{P:ar->Value->Prop}(hf:C.func f=some fn)(hb:fn.body.isSome=true)(hop:o.op=.call ⟨.value fo,as_,ts⟩)
  (hw:aE ops k o=some true) {dst:Nat} (hdst:o.dst=some dst) (hn:Nat.blt dst n=true) (hfo:aU C k fo=some (.func (.func f) ⟨first⟩ ⟨capt⟩)) (hv:dx (aU C k) as_.toList=some args) (hargs:first++args++capt=args') (spec:Spec C f args' F [] λF' v o=>o=[]/\P F' v)
  (h:∀F' v,ar.le F F'->P F' v->WT C n ops rest ((dst,v)::k) F' own (λk2 F2 own2 rs=>Q k2 F2 own2 (⟨F,own,F',own,[]⟩::rs))) :
  WT C n ops (o::rest) k F own Q:=by
 subst hargs;refine WT.step (l:=[]) (by rw[hop];rfl) λe h' hk hs=>?_;obtain⟨v,h1,F1,oout,⟨m,hd⟩,hF,hs1,rfl,hp⟩:=spec own h' hs;refine⟨v,h1,F1,own,⟨m,λN hN=>?_⟩,hF,hs1,by rw[hdst,ay hn];exact h F1 v hF hp⟩;unfold ek;rw[eN hk hw];have:aN C (aU C k) h' o.op=some (.call f (first++args++capt)):=by
  rw[hop];simp only[aN,hfo,hv,vv hf hb]
 simp only[ef hk.eval this,hd N hN]
end
end Go.Abs
namespace Go.Proofs.D
def cd:Ty Bool where
 size:=1
 rel:=λ_ l x=>l=[.bool x]
 len:=λ_ _ _ h=>by subst h;rfl
 one:=λ_ _ _ h=>by subst h;rfl
 mono:=λ_ _ _ _ _ h=>h
def Lq(to:Nat):List Sym->Nat->List Key->Prop
 | [],i,ks=>ks=[]/\i=to
 | s::l,i,ks=>∃q ks',ks=q::ks'/\q.sym=s/\q.gU=i/\Lq to l q.to ks'
structure MA(g:af)(S:List Key)(k:Key)(p:rF)(kp:ob):Prop where
 num:p=Ek S kp
 aA:∃r,g.rules[kp.aA]?=some r/\r.left=k.sym.n/\Lq k.to r.right k.gU kp.kids
 ins:∀q∈kp.kids,q∈S
structure Pb(g:af)(w:List Nat)(S:List Key)(k:Key)(x:Node):Prop where
 key:x.key=k
 term:k.sym.term=true->k.to=k.gU+1/\k.to<=w.length/\w[k.gU]?=some k.sym.n/\x.jC=[]
 ym:k.sym.term=false->x.jC≠[]
 pack:∀p∈x.jC,∃kp,MA g S k p kp
 sorted:x.jC.Pairwise λx y=>Hv x y<0
end Go.Proofs.D
set_option linter.unusedVariables false
set_option maxRecDepth 20000
set_option maxHeartbeats 0
open Go Go.Abs Go.Proofs Go.Proofs.D
namespace Go.Abs
section
variable {C:Ctx}{T:RT}{n:Nat}{k:bu}{F:ar}{own:a6}{ops rest:List Oper}{o:Oper}{Q:bu->ar->a6->List Rec->Prop}{α:Type}{R:Ty α}
theorem WT.OR(hT:aO C T=true)(p:Nat){t:TypeId}{ao:Operand}{a:Option Addr}{m c j b:Nat}{B:List (Nat×aD)}{xs:List α}{x:α}{r:Row}(hv:dC R F a m c B xs)(ha:a=some ⟨b,0,none⟩)(hj:xs[j]?=some x)(hop:o.op=.load t ao)(hw:aE ops k o=some true){dst:Nat}(hdst:o.dst=some dst)(hn:Nat.blt dst n=true)
  (hao:aU C k ao=some (.pointer (some ⟨b,j*R.size,none⟩))) (hp:own[p]?=some B) (hr:rowOf T t=some r) (hd:r.d.agg=false) (hs:R.size=1)
  (h:∀v,R.rel F [v] x->WT C n ops rest ((dst,v)::k) F own (λk2 F2 own2 rs=>Q k2 F2 own2 (⟨F,own,F,own,[b]⟩::rs))):WT C n ops (o::rest) k F own Q:=by
 obtain⟨i,cs,h1,rfl,h3,h4⟩:=hv.at_ hj;rw[ha] at h1;injection h1 with h1;injection h1 with h1;subst h1;obtain⟨l,h5,h6⟩:=h3.at j x hj;have hl:=R.len _ _ _ h6;rw[show R.size=1 from hs] at hao h5 hl
 match l,hl,h5,h6 with
 | [v],_,h5,h6=>exact WT.mD p hop hw hao hp me (n9 hT hr hd (sy h5 rfl)) (by rw[hdst,ay hn];exact h v h6)
end
end Go.Abs
namespace Go.Proofs.D
theorem tz{α:Type}[DecidableEq α]:∀(os:List (Option α)) (br:List α) (o:Option α),bQ br (os++[o])=((c7 (bQ br os).1 o).1,(bQ br os).2++[(c7 (bQ br os).1 o).2])
 | [],br,o=>rfl
 | x::os,br,o=>by
  have ih:=tz os (c7 br x).1 o;show ((bQ (c7 br x).1 (os++[o])).1,(c7 br x).2::(bQ (c7 br x).1 (os++[o])).2)=_;rw[ih];rfl
theorem BD{α:Type}[DecidableEq α](br:List α)(a:List (Option α)):∀(b:List (Option α)),(bQ br a).1.length<=(bQ br (a++b)).1.length:=by
 intro b
 induction a generalizing br with
 | nil=>
  obtain⟨⟨ex,h⟩,_⟩:=k9 b br;show br.length<=(bQ br b).1.length;rw[h,Rf];omega
 | cons o a ih=>exact ih (c7 br o).1
def wX{α:Type}[DecidableEq α](s:α)(S:List α):Nat:=S.idxOf s
theorem Jh{α:Type}[DecidableEq α]{s:α}{S T:List α}(h:s∈S):wX s (S++T)=wX s S:=by
 unfold wX;rw[List.idxOf_append,If h]
theorem Ju{α:Type}[DecidableEq α]{s:α}{S:List α}(h:s∉S):wX s (S++[s])=S.length:=by
 unfold wX;rw[List.idxOf_append,By h];simp
def rO{σ:Type}[DecidableEq σ](key:σ->List UInt8)(P:List σ->Prop)(es:cQ (List UInt8))(S:List (List σ)):Prop:=∀s,P s->Abs.look es (dD key s)=if s∈S then some (.int .i64 (wX s S:Nat)) else none
theorem rO.add{σ:Type}[DecidableEq σ]{key:σ->List UInt8}{P:List σ->Prop}{es:cQ (List UInt8)}{S:List (List σ)}(h:rO key P es S)(hinj:∀s s',P s->P s'->dD key s=dD key s'->s=s'){s:List σ}(hs:P s)(hn:s∉S) :
  rO key P (dX es (dD key s) (.int .i64 (S.length:Nat))) (S++[s]):=by
 intro s' hs';rw[jM];by_cases e:s'=s
 ·subst e;rw[If rfl,If (R7 _ (List.mem_singleton_self _))];rw[Ju hn]
 ·rw[By (λe2=>e (hinj s' s hs' hs e2)),h s' hs'];by_cases hm:s'∈S
  ·rw[If hm,If (R6 _ hm)];rw[Jh hm]
  ·rw[By hm,By];intro h2;rcases Rx.1 h2 with h2 | h2
   ·exact hm h2
   ·exact e (Rh.1 h2)
theorem rO.one{σ:Type}[DecidableEq σ]{key:σ->List UInt8}{P:List σ->Prop}(hinj:∀s s',P s->P s'->dD key s=dD key s'->s=s'){s:List σ}(hs:P s):rO key P (dX [] (dD key s) (.int .i64 0)) [s]:=
 rO.add (S:=[]) (es:=[]) (λs' _=>by simp[Abs.look]) hinj hs (by simp)
theorem E1{α:Type}[DecidableEq α]{most f i:Nat}{step:α->List (Option α)}{br:List α}(rows:List (List Int))(_:Unit){st:α}(h:br[i]?=some st) :
  mf most step (f+1) i br rows=if (bQ br (step st)).1.length<=most then mf most step f (i+1) (bQ br (step st)).1 (rows++[(bQ br (step st)).2]) else none:=by
 conv=>lhs;unfold mf
 rw[h]
theorem vD(F:ar){b:Option Addr}{n d:Nat}{l:List Lr}(hl:bw dM F b n d l)(hn:n<=1000){i6:Nat}{ro:Bool}{fk:Nat}{fnk:Func}(hgk:CC.func fk=some fnk)(hbk:fnk.body.isSome=true)(hi6:F i6=some (.cells ro [.func (.func fk) ⟨[]⟩ ⟨[]⟩]))
  (key:Lr->List UInt8) (hlen:∀x∈l,(key x).length<=20) (hkey:∀x∈l,∀G,ar.le F G->Abs.Spec CC fk [.agg ⟨[.int .i64 x.aA,.int .i64 x.dot]⟩] G [] λ_ v o=>o=[]/\v=.string (eQ (key x))) :
  Abs.Spec CC 192 [.slice b n d,.pointer (some ⟨i6,0,none⟩)] F [] λ_ v o=>o=[]/\v=.string (eQ (dD key l)):=by
 have hll:=hl.len;have htot:∀j,(dD key (l.take j)).length<=21*j:=by
  intro j
  induction j with
  | zero=>simp[dD]
  | succ j ih=>
   rw[Rk];cases hx:l[j]? with
   | none=>simp;omega
   | some x=>
    rw[Option.toList_some,pD,Rf,Rf,Sx];have:=hlen x (gM hx);omega
 refine Abs.Spec.fn (n:=21) Tryz.func192 rfl rfl λown=>?_;refine aj ?_;refine AW.range (S:=List UInt8) (λs=>[(4,.string (eQ s))]) (λ_=>own) (λj s G=>s=dD key (l.take j)) n [] Z Z Z Z Z Z Z Z Z zo Z Z (λ_=>rfl) (λ_=>rfl) sM oR Z ?_ ?_
 ·intro j s F1 hF1 hj hP;have hl1:=hl.mono hF1;have hi1:=hF1 _ _ hi6;have ht:=htot j;refine au ?_;refine WT.bG hT hl1 Z Z Z Z Z Z Z Z Z zo (λx hxj b1 off ro1 cs lx hb1 hp1 hrel=>?_);obtain rfl:lx=_:=hrel;have hxm:=gM hxj;have hxl:=hlen x hxm;refine au ?_;refine WT.aI hT Z Z Z Z Z Z (λi9 hi9=>?_);refine au ?_;refine WT.fZ (first:=[]) (args:=[.agg ⟨[.int .i64 x.aA,.int .i64 x.dot]⟩]) (capt:=[]) hgk hbk Z Z Z Z Z Z Z (hkey x hxm F1 hF1) (λv hv=>?_)
  subst hv;refine WT.y8 Z Z Z Z Z Z (by rw[jO];show _+1<=_;omega) ?_;refine WT.y8 Z Z Z Z Z Z (by rw[show (eQ (key x)++{ data:=#[59] }:ByteArray)=eQ (key x++[59]) from lg _ [59],jO,jO,hP,Rf];show _+(_+1)<=_;omega) ?_;refine WT.iE (v':=.string (eQ (s++(key x++[59])))) 18 Z (by show Value.string (eQ s++(eQ (key x)++eQ [59]))=_;rw[lg,lg]) ?_;refine au ?_;refine⟨s++(key x++[59]),sM,cy,?_⟩;show _=dD key (l.take (j+1));rw[Rk,hxj,Option.toList_some,pD,hP]
 ·intro s F1 hF1 hP;rw[No zo] at hP;refine au ?_;exact AW.ret ⟨_,[],⟨_,_,rfl,rfl,rfl⟩,bU,rfl,by rw[hP];rfl⟩
structure PE where
 i:Nat
 br:List (List Lr)
 rows:List (List Int)
 sa:Option Addr
 sn:Nat
 sc:Nat
 SB:List (Nat×aD)
 ta:Option Addr
 tn:Nat
 tc:Nat
 TB:List (Nat×aD)
 es:cQ (List UInt8)
structure Pf where
 br:List (List Lr)
 row:List Int
 sa:Option Addr
 sn:Nat
 sc:Nat
 SB:List (Nat×aD)
 ra:Option Addr
 rn:Nat
 rc:Nat
 RB:List (Nat×aD)
 es:cQ (List UInt8)
theorem zg(F:ar)(g:af)(hg:Valid g){ga:Option Addr}{gm gc:Nat}{b:Option Addr}{n d:Nat}{st0:List Lr}(h0:bw dM F b n d st0)
  {fk fx:Nat} {fnk fnx:Func} {firstx captx:List Value} (hgk:CC.func fk=some fnk) (hbk:fnk.body.isSome=true) (hgx:CC.func fx=some fnx) (hbx:fnx.body.isSome=true)
  (key:Lr->List UInt8) (nx:List Lr->Sym->Option (List Lr)) (P:List Lr->Prop) (okx:Lr->Prop)
  (hP0:P st0) (hPl:∀s,P s->s.length<=1000/\∀x∈s,okx x) (hinj:∀s s',P s->P s'->dD key s=dD key s'->s=s') (hnP:∀s y s',P s->nx s y=some s'->P s')
  (hlen:∀x,okx x->(key x).length<=20) (hkey:∀x,okx x->∀G,ar.le F G->Abs.Spec CC fk [.agg ⟨[.int .i64 x.aA,.int .i64 x.dot]⟩] G [] λ_ v o=>o=[]/\v=.string (eQ (key x)))
  (hnext:∀G,ar.le F G->∀(a:Option Addr) (m c:Nat) (s:List Lr) (y:Sym),P s->bw dM G a m c s->bZ g.ae g.ak y->
   Abs.Spec CC fx (firstx++[.slice a m c,.agg ⟨[.bool y.term,.int .i64 y.n]⟩]++captx) G [] λG' v o=>o=[]/\∃a' n' c' z s',v=.tuple ⟨[.slice a' n' c',.bool z]⟩/\bw dM G' a' n' c' s'/\nx s y=if z=true then some s' else none) :
  Abs.Spec CC 151 [.agg ⟨ai g ga gm gc⟩,.slice b n d,.func (.func fk) ⟨[]⟩ ⟨[]⟩,.func (.func fx) ⟨firstx⟩ ⟨captx⟩] F [] λF' v o=>o=[]/\
   ((mf 400 (λs=>(cu g).map (nx s)) 401 0 [st0] []=none/\v=.tuple ⟨[.slice none 0 0,.slice none 0 0,.bool false]⟩)\/
    ∃S rows a1 n1 c1 a2 n2 c2,mf 400 (λs=>(cu g).map (nx s)) 401 0 [st0] []=some (S,rows)/\v=.tuple ⟨[.slice a1 n1 c1,.slice a2 n2 c2,.bool true]⟩/\bw (cg dM) F' a1 n1 c1 S/\bw (cg fm) F' a2 n2 c2 rows):=by
 have hgt:=hg.range.ae;have hgn:=hg.range.ak;have hl0:=h0.len;unfold ai;refine Abs.Spec.fn (n:=93) Tryz.func151 rfl rfl λown=>?_;refine AW.seq (AW.du ?_);refine WT.cC Z Z Z Z Z Z (λi4 hi4=>?_);refine WT.cC Z Z Z Z Z Z (λi6 hi6=>?_);refine au ?_;refine WT.aw 0 Z Z (λF0 hF0 hB0=>?_);have hi6:=hB0 i6 _ me;have h01:=h0.mono hF0;refine WT.bd hT Z Z Z Z Z Z Z Z Z Z Z Z Z Z (λi26 hi26=>?_);refine au ?_;refine WT.makeMap Z Z Z Z (λim him=>?_);refine au ?_
 refine WT.fZ (first:=[]) (args:=[.slice b n d]) (capt:=[.pointer (some ⟨i6,0,none⟩)]) Tryz.func192 Z Z Z Z Z Z Z Z (vD F0 h01 (hl0▸(hPl _ hP0).1) hgk hbk hi6 key (λx hx=>hlen x ((hPl _ hP0).2 x hx)) (λx hx G hG=>hkey x ((hPl _ hP0).2 x hx) G (hF0.trans hG))) (λv hv=>?_)
 subst hv;refine WT.C1 wF hT 0 0 (m:=[]) (key:=dD key st0) Z Z Z Z Z Z Z Z Z Z Z Z ?_;refine au ?_;refine AW.block ?_;refine AW.cK (S:=PE) (λs=>[(15,.int .i64 (s.i:Nat)),(12,.slice s.sa s.sn s.sc),(14,.slice s.ta s.tn s.tc)]) (λs=>s.TB::[(im,.map (aK wF s.es))]::s.SB::[]::[(i4,.cells false [.int .i64 g.ae,.int .i64 g.ak,.int .i64 g.start,.slice ga gm gc])]::own)
  (λs G=>mf 400 (λs=>(cu g).map (nx s)) 401 0 [st0] []=mf 400 (λs=>(cu g).map (nx s)) (401-s.i) s.i s.br s.rows/\n6 400 (λs=>(cu g).map (nx s)) st0 s.i s.br s.rows/\dy (cg dM) G s.sa s.sn s.sc s.SB s.br/\dy (cg fm) G s.ta s.tn s.tc s.TB s.rows/\rO key P s.es s.br/\∀x∈s.br,P x) (λs=>401-s.i)
  ⟨0,[st0],[],some ⟨i26,0,none⟩,1,1,[(i26,.cells false [.slice b n d])],none,0,0,[],dX [] (dD key st0) (.int .i64 0)⟩
  sM (ah.flat (Rc _)) ⟨rfl,n6.begin _ _ (by decide),⟨rfl,.inr ⟨i26,_,rfl,rfl,rfl,aF.single (R:=cg dM) (x:=st0) ⟨_,_,_,rfl,h01⟩,by decide⟩⟩,dy.gq _ _,rO.one hinj hP0,λx hx=>by rw[Rh.1 hx];exact hP0⟩ ?_
 intro s F1 hF1 hI;obtain⟨hnum,hN,hsb,htb,hmp,hall⟩:=hI;have hfew:=hN.m5;have hle:=hN.le;have hrl:=hN.len;have hsn:=hsb.len;have htn:=htb.len;have hi61:=hF1 _ _ hi6;refine Ka ?_;refine AW.cond Z (λh=>?_) (λh=>?_)
 ·have hlt:s.i<s.br.length:=by simp at h;omega
  obtain⟨st,hst⟩:∃st,s.br[s.i]?=some st:=⟨_,gE hlt⟩;have hPst:=hall st (gM hst);refine Ka ?_;refine AW.block ?_;refine Ka ?_;have hsy:=yY F1 g hg (a:=ga) (m:=gm) (c:=gc);unfold ai at hsy;refine WT.dH Tryz.func146 Z Z Z Z Z Z hsy (λF2 v hF2 hv=>?_);obtain⟨ya,yn,yc,rfl,hy⟩:=hv;have hyl:=hy.len;rw[fI] at hyl;refine Ka ?_
  refine AW.range (S:=Pf) (λu=>[(12,.slice u.sa u.sn u.sc),(16,.slice u.ra u.rn u.rc)]) (λu=>u.RB::s.TB::[(im,.map (aK wF u.es))]::u.SB::[]::[(i4,.cells false [.int .i64 g.ae,.int .i64 g.ak,.int .i64 g.start,.slice ga gm gc])]::own)
   (λk u G=>bQ s.br (((cu g).map (nx st)).take k)=(u.br,u.row)/\u.br.length<=400/\dy (cg dM) G u.sa u.sn u.sc u.SB u.br/\dy fm G u.ra u.rn u.rc u.RB u.row/\rO key P u.es u.br/\∀x∈u.br,P x) yn ⟨s.br,[],s.sa,s.sn,s.sc,s.SB,none,0,0,[],s.es⟩
   Z Z Z Z Z Z Z Z Z zo rfl rfl (λ_=>rfl) (λ_=>rfl) sM (ah.flat (Rc _)) ⟨rfl,hfew,hsb.mono hF2,dy.gq _ _,hmp,hall⟩ ?_ ?_
  ·intro k u F3 hF3 hk hI;obtain⟨hadd,hu4,hub,hrb,hum,huall⟩:=hI;have hy3:=hy.mono hF3;have hi63:=hF3 _ _ (hF2 _ _ hi61);have hrow:=hrb.len;have hun:=hub.len;obtain⟨⟨ex,hex⟩,hnd,_,hro⟩:=k9 (((cu g).map (nx st)).take k) s.br;rw[hadd] at hex hnd hro;have hex:u.br=s.br++ex:=hex;have hrl:=hro.len;rw[RK,Rq,fI] at hrl;have hrl:u.row.length=k:=by
    have h9:u.row.length=min k (g.ae+g.ak):=hrl;rw[h9,Se zo]
   have hsti:u.br[s.i]?=some st:=by rw[hex,Rj hlt];exact hst
   refine wR ?_;refine WT.bG hT hy3 Z Z Z Z Z Z Z Z Z (by rw[fI];omega) (λy hyk b1 off1 ro1 cs1 lx1 hb1 hp1 hrel1=>?_);obtain rfl:lx1=_:=hrel1;obtain⟨hyo,hyi⟩:=Ch hyk;have hosk:((cu g).map (nx st))[k]?=some (nx st y):=by rw[Re,hyk];rfl
   have htk:((cu g).map (nx st)).take (k+1)=((cu g).map (nx st)).take k++[nx st y]:=by rw[Rk,hosk];rfl
   refine wR ?_;refine WT.aI hT Z Z Z Z Z Z (λi18 hi18=>?_);refine wR ?_;refine WT.be hT hub.vec Z Z Z Z Z Z Z Z Z (by rw[hun,hex,Rf];omega) (λb5 hb5=>?_);refine WT.OR hT 4 hub.vec hb5 hsti Z Z Z Z Z Z Z Z Z (λv hv=>?_);obtain⟨qa,qn,qc,hv,hq⟩:=hv;obtain rfl:v=.slice qa qn qc:=by simpa using hv
   refine wR ?_;refine WT.Kw (first:=firstx) (args:=[.slice qa qn qc,.agg ⟨[.bool y.term,.int .i64 y.n]⟩]) (capt:=captx) hgx hbx Z Z Z Z Z Z Z (hnext F3 (hF0.trans (hF1.trans (hF2.trans hF3))) _ _ _ st y hPst hq hyo) (λF4 v hF4 hv=>?_)
   obtain⟨za,zn,zc,zb,s',rfl,hz,hnx⟩:=hv;have hrb4:=hrb.mono hF4;have hub4:=hub.mono hF4;have hsnoc:=tz (((cu g).map (nx st)).take k) s.br (nx st y);rw[<-htk,hadd] at hsnoc;refine wR ?_;refine AW.cond Z (λhzb=>?_) (λhzb=>?_)
   ·have hzb:zb=false:=by simpa using hzb
    rw[hzb,By (by simp)] at hnx;rw[hnx] at hsnoc;refine wR ?_;refine WT.bd hT Z Z Z Z Z Z Z Z Z Z Z Z Z Z (λi58 hi58=>?_);refine WT.bP (R:=fm) (ys:=[-1]) hT 2 hrb4 Z (λ_=>rfl) Z Z Z Z Z Z Z Z Z Z Z (λh0 s0=>bh hT s0 0 Z Z Z Z) (aF.single (R:=fm) (x:=-1) rfl) Z (by decide) kq (λa3 c3 B3 hB3=>?_);refine wR ?_;refine AW.exit ?_;exact⟨⟨u.br,u.row++[-1],u.sa,u.sn,u.sc,u.SB,a3,u.rn+1,c3,B3,u.es⟩,sM,cy,hsnoc,hu4,hub4,hB3,hum,huall⟩
   ·have hzb:zb=true:=by simpa using hzb
    rw[hzb,If rfl] at hnx;rw[hnx] at hsnoc;have hPs:=hnP st y s' hPst hnx;refine wR ?_;refine WT.fZ (first:=[]) (args:=[.slice za zn zc]) (capt:=[.pointer (some ⟨i6,0,none⟩)]) Tryz.func192 Z Z Z Z Z Z Z Z (vD F4 hz (hz.len▸(hPl _ hPs).1) hgk hbk (hF4 _ _ hi63) key (λx hx=>hlen x ((hPl _ hPs).2 x hx)) (λx hx G hG=>hkey x ((hPl _ hPs).2 x hx) G (hF0.trans (hF1.trans (hF2.trans (hF3.trans (hF4.trans hG))))))) (λv hv=>?_)
    subst hv;refine wR ?_;have hlk:=hum s' hPs;refine WT.Li wF hT 3 (m:=u.es) (key:=dD key s') Z Z Z Z Z Z Z me Z Z Z (λv hv=>?_) (λhv=>?_)
    ·rw[hv] at hlk;have hmem:s'∈u.br:=by
      by_cases hm:s'∈u.br
      ·exact hm
      ·rw[By hm] at hlk;cases hlk
     rw[If hmem] at hlk;obtain rfl:=AT hlk;have hone:c7 u.br (some s')=(u.br,((wX s' u.br:Nat):Int)):=by unfold c7;simp only[If hmem];rfl
     rw[hone] at hsnoc;refine wR ?_;refine AW.cond Z (λh=>(by cases h)) (λ_=>?_);refine wR ?_;refine WT.bd hT Z Z Z Z Z Z Z Z Z Z Z Z Z Z (λi58 hi58=>?_);refine WT.bP (R:=fm) (ys:=[((wX s' u.br:Nat):Int)]) hT 2 hrb4 Z (λ_=>rfl) Z Z Z Z Z Z Z Z Z Z Z (λh0 s0=>bh hT s0 0 Z Z Z Z) (aF.single (R:=fm) (x:=((wX s' u.br:Nat):Int)) rfl) Z (by decide) kq (λa3 c3 B3 hB3=>?_);refine wR ?_;exact⟨⟨u.br,u.row++[((wX s' u.br:Nat):Int)],u.sa,u.sn,u.sc,u.SB,a3,u.rn+1,c3,B3,u.es⟩,sM,cy,hsnoc,hu4,hub4,hB3,hum,huall⟩
    ·rw[hv] at hlk;have hmem:s'∉u.br:=λhm=>by rw[If hm] at hlk;cases hlk
     have hone:c7 u.br (some s')=(u.br++[s'],((u.br.length:Nat):Int)):=by unfold c7;simp only[By hmem]
     rw[hone] at hsnoc;refine wR ?_;refine AW.cond Z (λ_=>?_) (λh=>(by cases h));refine wR ?_;refine AW.cond Z (λh4=>?_) (λh4=>?_)
     ·have h4:u.br.length=400:=by simp at h4;omega
      refine wR ?_;refine AW.ret ⟨_,[],⟨_,_,rfl,⟨_,_,rfl,⟨_,_,rfl,rfl,rfl⟩,rfl⟩,rfl⟩,bU,rfl,.inl ⟨?_,rfl⟩⟩;rw[hnum,show 401-s.i=(400-s.i)+1 by omega,E1 _ () hst,By];have h5:=BD s.br (((cu g).map (nx st)).take (k+1)) (((cu g).map (nx st)).drop (k+1));rw[Si,hsnoc] at h5;simp only[Rf,Sx] at h5;omega
     ·have h4:u.br.length≠400:=by simp at h4;omega
      refine wR ?_;refine WT.sO wF hT 3 0 (m:=u.es) (key:=dD key s') Z Z Z Z Z Z Z Z Z Z Z Z ?_;refine wR ?_;refine WT.bd hT Z Z Z Z Z Z Z Z Z Z Z Z Z Z (λi80 hi80=>?_);refine WT.bP (R:=cg dM) (ys:=[s']) hT 5 hub4 Z (λ_=>rfl) Z Z Z Z Z Z Z Z Z Z Z (λh0 s0=>bh hT s0 0 Z Z Z Z) (aF.single (R:=cg dM) (x:=s') ⟨_,_,_,rfl,hz⟩) Z (by decide) kq (λa4 c4 B4 hB4=>?_);refine wR ?_;refine WT.bd hT Z Z Z Z Z Z Z Z Z Z Z Z Z Z (λi58 hi58=>?_)
      refine WT.bP (R:=fm) (ys:=[((u.sn:Nat):Int)]) hT 3 hrb4 Z (λ_=>rfl) Z Z Z Z Z Z Z Z Z Z Z (λh0 s0=>bh hT s0 0 Z Z Z Z) (aF.single (R:=fm) (x:=((u.sn:Nat):Int)) rfl) Z (by decide) kq (λa3 c3 B3 hB3=>?_);refine wR ?_;have hum2:=hum.add hinj hPs hmem;rw[<-hun] at hum2 hsnoc;refine⟨⟨u.br++[s'],u.row++[((u.sn:Nat):Int)],a4,u.sn+1,c4,B4,a3,u.rn+1,c3,B3,dX u.es (dD key s') (.int .i64 (u.sn:Nat))⟩,sM,cy,hsnoc,?_,hB4,hB3,hum2,λx hx=>?_⟩
      ·show (u.br++[s']).length<=400;rw[Rf,Sx];omega
      ·rcases Rx.1 hx with hx | hx
       ·exact huall x hx
       ·rw[Rh.1 hx];exact hPs
  ·intro u F3 hF3 hI;obtain⟨hadd,hu4,hub,hrb,hum,huall⟩:=hI;rw[No (by rw[Rq,fI];omega)] at hadd;refine AW.aw 0 Z Z (λF4 hF4 hB4=>?_);have hrow:=hrb.frozen hF4 hB4;have hF14:=(hF2.trans hF3).trans hF4;have htb4:=htb.mono hF14;refine wR ?_;refine WT.bd hT Z Z Z Z Z Z Z Z Z Z Z Z Z Z (λi89 hi89=>?_);refine WT.bP (R:=cg fm) (ys:=[u.row]) hT 2 htb4 Z (λ_=>rfl) Z Z Z Z Z Z Z Z Z Z Z (λh0 s0=>bh hT s0 0 Z Z Z Z) (aF.single (R:=cg fm) (x:=u.row) ⟨_,_,_,rfl,hrow⟩) Z (by decide) kq (λa3 c3 B3 hB3=>?_)
   refine wR ?_;have hstep:(bQ s.br ((cu g).map (nx st))).1=u.br/\(bQ s.br ((cu g).map (nx st))).2=u.row:=by rw[hadd];exact⟨rfl,rfl⟩
   have hN2:=hN.next hst (by rw[hstep.1];exact hu4)
   have hun:=hub.len;refine⟨⟨s.i+1,u.br,s.rows++[u.row],u.sa,u.sn,u.sc,u.SB,a3,s.tn+1,c3,B3,u.es⟩,by dsimp only;omega,sM,cy,?_,?_,hub.mono hF4,hB3,hum,huall⟩
   ·rw[hnum,show 401-s.i=(400-s.i)+1 by omega,E1 _ () hst,If (by rw[hstep.1];exact hu4),hstep.1,hstep.2];show mf 400 _ (400-s.i) (s.i+1) _ _=mf 400 _ (401-(s.i+1)) (s.i+1) _ _;rw[show 401-(s.i+1)=400-s.i by omega]
   ·rw[hstep.1,hstep.2] at hN2;exact hN2
 ·have hge:s.br.length<=s.i:=by simp at h;omega
  refine AW.exit ?_;refine AW.aw 0 Z Z (λF2 hF2 hB2=>?_);refine AW.aw 2 Z Z (λF3 hF3 hB3=>?_);have ht:=htb.frozen hF2 hB2;have hs3:=(hsb.mono hF2).frozen hF3 hB3;refine Ka ?_;refine AW.ret ⟨_,[],⟨_,_,rfl,⟨_,_,rfl,⟨_,_,rfl,rfl,rfl⟩,rfl⟩,rfl⟩,bU,rfl,.inr ⟨s.br,s.rows,_,_,_,_,_,_,?_,rfl,hs3,ht.mono hF3⟩⟩;rw[hnum,show 401-s.i=(400-s.i)+1 by omega];unfold mf;rw[Ry hge]
def PI(g:af)(s:List Lr):Prop:=s.length<=1000/\∀x∈s,jK g x
theorem OE{g:af}(hg:Valid g){x:Lr}(h:jK g x):x.aA<100/\x.dot<100:=by
 have hr:=hg.range.rules;obtain⟨h1,h2⟩:=h;refine⟨by omega,?_⟩;have:(aX g x.aA).length<=4:=by
  unfold aX;split
  ·simp
  ·cases hq:g.rules[x.aA]? with
   | none=>simp
   | some r=>exact(hg.right r (gM hq)).2.1
 omega
theorem GG{g:af}(hg:Valid g):(rr g).length<=1000:=by
 have hr:=hg.range.rules;unfold rr;rw[List.length_flatten,S3];have:∀n≤g.rules.length+1,((List.range n).map (List.length ∘ λk=>(List.range ((aX g k).length+1)).map λd=>(⟨k,d⟩:Lr))).sum<=n*5:=by
  intro n hn
  induction n with
  | zero=>simp
  | succ n ih=>
   rw[List.range_succ,RV,Uv];have ih:=ih zo;simp only[Na,Sg,Sy,Uw,Function.comp,Rq,S7];have h2:(aX g n).length<=4:=by
    unfold aX;split
    ·simp
    ·cases hq:g.rules[n]? with
     | none=>simp
     | some r=>exact(hg.right r (gM hq)).2.1
   omega
 have h:=this _ (AS _);omega
theorem nf{g:af}(hg:Valid g)(l:List Lr):PI g (fD g l):=by
 refine⟨?_,kY⟩;have h1:=GG hg;have h2:=S9 (λz=>@decide (eT g l z) (Classical.propDecidable _)) (rr g);unfold fD;omega
theorem xk(F:ar)(g:af)(hg:Valid g){a:Option Addr}{m c:Nat}(hr:bw bK F a m c g.rules) :
  Abs.Spec CC 100 [.agg ⟨ai g a m c⟩] F [] λF' v o=>o=[]/\((kB g=none/\v=.tuple ⟨[.agg ⟨[.slice none 0 0,.slice none 0 0]⟩,.int .i64 2]⟩)\/
   ∃I rows a1 n1 c1 a2 n2 c2,kB g=some (I,rows)/\v=.tuple ⟨[.agg ⟨[.slice a1 n1 c1,.slice a2 n2 c2]⟩,.int .i64 0]⟩/\bw (cg dM) F' a1 n1 c1 I/\bw (cg fm) F' a2 n2 c2 rows):=by
 have hrl:=hr.len;have hgr:=hg.range.rules;have hg4:∀r∈g.rules,r.right.length<=100:=λr h=>by have:=(hg.right r h).2.1;omega
 refine Abs.Spec.fn (n:=34) Tryz.func100 rfl rfl λown=>?_;refine AW.seq (AW.du ?_);refine WT.cC Z Z Z Z Z Z (λi1 hi1=>?_);refine WT.aw 0 Z Z (λF0 hF0 hB0=>?_);have hi1:=hB0 i1 _ me;have hr:=hr.mono hF0;unfold ai at hi1 ⊢;refine WT.aI hT Z Z Z Z Z Z (λi2 hi2=>?_);refine au ?_;have hck:=j5 F0 g hg.range hr;unfold ai at hck;refine WT.bN Tryz.func85 Z Z Z Z Z Z hck (λv hv=>?_);rw[hg.u0] at hv;subst hv;refine au ?_;refine AW.cond Z (λh=>(by cases h)) (λ_=>?_);refine au ?_;refine AW.draw (ps:=[(0,6),(0,7),(1,6)]) Z Z ?_;refine au ?_
 refine WT.bd hT Z Z Z Z Z Z Z Z Z Z Z Z Z Z (λi21 hi21=>?_);refine WT.aw 0 Z Z (λF1 hF1 hB1=>?_);have hk1:bw dM F1 (some ⟨i21,0,none⟩) 1 2 [⟨g.rules.length,0⟩]:=by
  have hb:dy dM F0 (some ⟨i21,0,none⟩) 1 2 [(i21,.cells false [.int .i64 m,.int .i64 0])] [⟨g.rules.length,0⟩]:=⟨rfl,.inr ⟨i21,_,rfl,rfl,rfl,aF.single (R:=dM) (x:=⟨g.rules.length,0⟩) (by rw[<-hrl];rfl),by decide⟩⟩;exact hb.frozen hF1 hB1
 have hr1:=hr.mono hF1;have hi11:=hF1 _ _ hi1;have hcs:=qQ F1 g hg4 hr1 zo hk1 zo (λz hz=>(jk z hz).1);unfold ai at hcs;refine WT.dH Tryz.func152 Z Z Z Z Z Z hcs (λF2 v hF2 hv=>?_);obtain⟨a8,m8,c8,zs,rfl,hz,hzm,hstr,hmem⟩:=hv;obtain rfl:zs=lW g:=AZ jk hstr hmem;have hr2:=hr1.mono hF2;have hi12:=hF2 _ _ hi11;refine au ?_;have hnm:=zg F2 g hg (ga:=a) (gm:=m) (gc:=c) hz (fk:=148) (fx:=153) (firstx:=[]) (captx:=[.pointer (some ⟨i1,0,none⟩)]) Tryz.func148 rfl Tryz.func153 rfl
  qC (Er g) (PI g) (λx=>x.aA<100/\x.dot<100) (nf hg _) (λs hs=>⟨hs.1,λx hx=>OE hg (hs.2 x hx)⟩)
  (λs s' hs hs' e=>FW (λx hx=>OE hg (hs.2 x hx)) (λx hx=>OE hg (hs'.2 x hx)) e)
  (λs y s' _ e=>by
   unfold Er at e;split at e
   ·cases e
   ·obtain rfl:=AT e;exact nf hg _)
  (λx _=>by have:=Fc x;omega) (λx hx G _=>Cu G x hx)
  (λG hG a' m' c' s y hs hA hy=>DN G g hg (hG _ _ hi12) (hr2.mono hG) hA (hA.len▸hs.1) hs.2 y hy)
 unfold ai at hnm;refine WT.dH Tryz.func151 Z Z Z Z Z Z hnm (λF3 v hF3 hv=>?_);rcases hv with ⟨hno,rfl⟩ | ⟨S,rows,a1,n1,c1,a2,n2,c2,hyes,rfl,hS,hR⟩
 ·refine au ?_;refine⟨oF,?_⟩;refine au ?_;refine AW.cond Z (λ_=>?_) (λh=>(by cases h));refine au ?_;exact AW.ret ⟨_,[],⟨_,_,⟨_,rfl,λG h0 s0=>bV (s0.has (p:=1) rfl me) (cl hT rfl)⟩,⟨_,_,rfl,rfl,rfl⟩,rfl⟩,bU,rfl,.inl ⟨hno,rfl⟩⟩
 ·refine au ?_;refine⟨oF,?_⟩;refine au ?_;refine AW.cond Z (λh=>(by cases h)) (λ_=>?_);refine au ?_;exact AW.ret ⟨_,[],⟨_,_,⟨_,rfl,λG h0 s0=>bV (s0.has (p:=1) rfl me) (cl hT rfl)⟩,⟨_,_,rfl,rfl,rfl⟩,rfl⟩,bU,rfl,.inr ⟨S,rows,_,_,_,_,_,_,hyes,rfl,hS,hR⟩⟩
def P6(x:bL):List Value:=[.int .i64 x.item.aA,.int .i64 x.item.dot,.int .u32 x.set]
def o9:Ty bL where
 size:=3
 rel:=λ_ l x=>l=P6 x
 len:=λ_ _ _ h=>by rw[h];rfl
 one:=λ_ _ _ h=>by rw[h];rfl
 mono:=λ_ _ _ _ _ h=>h
theorem DJ(F:ar)(g:af)(hg:Valid g)(J:List Bool->List (List Bool)->Prop)(hJ0:J (List.replicate g.ak false) (List.replicate g.ak (List.replicate g.ae false)))
  (hJs:∀E Fi r,r∈g.rules->J E Fi->∀E',(E'=E\/(E'=E.set r.left true/\(ofRow E Fi (List.replicate g.ae false) r.right).2=true))->J E' (Fi.set r.left (aB (Fi.getD r.left []) (ofRow E Fi (List.replicate g.ae false) r.right).1)))
  {a:Option Addr} {m c:Nat} (hr:bw bK F a m c g.rules) :
  Abs.Spec CC 131 [.agg ⟨ai g a m c⟩] F [] λF' v o=>o=[]/\∃is E Fi,v=.pointer (some ⟨is,0,none⟩)/\vJ F' is g a m c E Fi/\J E Fi/\E.length=g.ak/\Fi.length=g.ak:=by
 unfold ai;have hrlen:=hr.len;have hgr:=hg.range.rules;have hgn:=hg.range.ak;have hgt:=hg.range.ae;refine Abs.Spec.fn (n:=81) Tryz.func131 rfl rfl λown=>?_;refine AW.seq (AW.du ?_);refine WT.cC Z Z Z Z Z Z (λi1 hi1=>?_);refine WT.aw 0 Z Z (λF0 hF0 hB0=>?_);have hi1:=hB0 i1 _ me;have hr:=hr.mono hF0;refine au ?_;refine AW.draw (ps:=[(0,3)]) Z Z ?_;refine au ?_;refine WT.nD (l:=g.ak) hT Z Z Z Z Z Z Z Z Z Z Z Z kq (λie hie=>?_);rw[mj];refine au ?_;refine WT.cC Z Z Z Z Z Z (λis his=>?_);refine au ?_;refine⟨oF,?_⟩;refine au ?_
 refine AW.range (S:=FS) (λ_=>[]) (λs=>[(is,.cells false [.int .i64 g.ae,.int .i64 g.ak,.int .i64 g.start,.slice a m c,.slice (some ⟨ie,0,none⟩) g.ak (if g.ak=0 then 0 else 1),.slice s.a s.m s.c])]::s.B::[(ie,.cells false (List.replicate g.ak (.bool false)))]::s.bs::[]::own)
  (λj s G=>dy iC G s.a s.m s.c s.B s.vs/\Abs.Rows aL s.vs s.bs (List.replicate j (List.replicate g.ae false))) g.ak ⟨none,0,0,[],[],[]⟩ Z Z Z Z Z Z Z Z Z zo rfl rfl (λ_=>rfl) (λ_=>rfl) sM (ah.flat (Rc _)) ⟨dy.gq _ _,Abs.Rows.nil⟩ ?_ ?_
 ·intro j s F1 hF1 hj hP;obtain⟨hb,hR⟩:=hP;have hi1:=hF1 _ _ hi1;have hblen:=hb.len;have hvl:=hR.len.1;rw[Sa] at hvl;refine AW.draw (ps:=[(4,7),(4,8)]) Z Z ?_;refine au ?_;refine WT.nD (l:=g.ae) hT Z Z Z Z Z Z Z Z Z Z Z Z kq (λir hir=>?_);rw[mj];refine WT.bd hT Z Z Z Z Z Z Z Z Z Z Z Z Z Z (λi9 hi9=>?_)
  refine WT.bP (R:=iC) (ys:=[.slice (some ⟨ir,0,none⟩) g.ae (if g.ae=0 then 0 else 1)]) hT 3 hb Z (λ_=>rfl) Z Z Z Z Z Z Z Z Z Z Z (λh0 s0=>bh hT s0 0 Z Z Z Z) (aF.single (R:=iC) ⟨rfl,rfl⟩) Z (by decide) kq (λa3 c3 B3 hB3=>?_);refine au ?_;refine⟨oF,?_⟩;refine⟨⟨a3,s.m+1,c3,B3,s.vs++[.slice (some ⟨ir,0,none⟩) g.ae (if g.ae=0 then 0 else 1)],s.bs++[(ir,.cells false (List.replicate g.ae (.bool false)))]⟩,sM,?_,hB3,?_⟩
  ·refine ah.skip _ (ah.flat ?_);simp only[SC,List.singleton_append];have:=tv (ir,aD.cells false (List.replicate g.ae (.bool false))) ((is,aD.cells false [.int .i64 g.ae,.int .i64 g.ak,.int .i64 g.start,.slice a m c,.slice (some ⟨ie,0,none⟩) g.ak (if g.ak=0 then 0 else 1),.slice a3 (s.m+1) c3])::(B3++[(ie,.cells false (List.replicate g.ak (.bool false)))])) s.bs ([]++own.flatten);simpa using this
  ·rw[show List.replicate (j+1) (List.replicate g.ae false)=List.replicate j (List.replicate g.ae false)++[List.replicate g.ae false] from List.replicate_succ'];have:=hR.snoc (K:=aL) (id:=ir) (row:=List.replicate g.ae false) (c:=if g.ae=0 then 0 else 1) (by simp);rw[Sa,TO] at this;exact this
 ·intro s F1 hF1 hP;obtain⟨hb,hR⟩:=hP;have hi1:=hF1 _ _ hi1;have hvl:=hR.len.1;rw[Sa] at hvl;have hr1:=hr.mono hF1;have hblen:=hb.len;obtain⟨io,cs,hia,hic,hiB,hcells,_⟩:=hb.at_.resolve_left (λh=>by rw[h.1] at hvl;simp at hvl;omega);have hcs:=sf hcells;subst hcs;have hic:s.c=1:=hic;refine au ?_
  refine AW.le (own2:=((is,.cells false [.int .i64 g.ae,.int .i64 g.ak,.int .i64 g.start,.slice a m c,.slice (some ⟨ie,0,none⟩) g.ak (if g.ak=0 then 0 else 1),.slice (some ⟨io,0,none⟩) g.ak 1])::(io,.cells false s.vs)::(ie,.cells false ((List.replicate g.ak false).map aL.cell))::s.bs)::own) (ah.flat ?_) ?_
  ·rw[hia,hic,hiB,show s.m=g.ak by omega,TO];exact Rc _
  refine AW.block ?_;refine AW.cK (S:=FM) (λt=>[(4,.bool t.again)]) (λt=>((is,.cells false [.int .i64 g.ae,.int .i64 g.ak,.int .i64 g.start,.slice a m c,.slice (some ⟨ie,0,none⟩) g.ak (if g.ak=0 then 0 else 1),.slice (some ⟨io,0,none⟩) g.ak 1])::(io,.cells false s.vs)::(ie,.cells false (t.E.map aL.cell))::t.bs)::own)
   (λt G=>Abs.Rows aL s.vs t.bs t.Fi/\nA g.ak g.ae t.Fi/\t.E.length=g.ak/\(t.again=false->ew g t.E t.Fi)/\J t.E t.Fi) (λt=>if t.again=true then 1+(g.ak+g.ak*g.ae-(fg t.E+dm t.Fi)) else 0) ⟨List.replicate g.ak false,List.replicate g.ak (List.replicate g.ae false),s.bs,true⟩
   sM oR ⟨hR,⟨by simp,λr hr=>by rw[Sl hr];simp⟩,by simp,λh=>(by cases h),hJ0⟩ ?_
  intro t F2 hF2 hP;obtain⟨hR,hM,hE,hC,hJ⟩:=hP;have hi1:=hF2 _ _ hi1;have hr2:=hr1.mono hF2;refine au ?_;refine AW.cond Z (λh=>?_) (λh=>?_)
  ·refine au ?_;refine AW.block ?_;refine au ?_;refine AW.range (S:=FM) (λt=>[(4,.bool t.again)]) (λt=>((is,.cells false [.int .i64 g.ae,.int .i64 g.ak,.int .i64 g.start,.slice a m c,.slice (some ⟨ie,0,none⟩) g.ak (if g.ak=0 then 0 else 1),.slice (some ⟨io,0,none⟩) g.ak 1])::(io,.cells false s.vs)::(ie,.cells false (t.E.map aL.cell))::t.bs)::own)
    (λk u G=>Abs.Rows aL s.vs u.bs u.Fi/\nA g.ak g.ae u.Fi/\u.E.length=g.ak/\fg t.E+dm t.Fi<=fg u.E+dm u.Fi/\(u.again=true->fg t.E+dm t.Fi<fg u.E+dm u.Fi)/\(u.again=false->∀r∈g.rules.take k,pJ g.ae u.E u.Fi r)/\J u.E u.Fi) m ⟨t.E,t.Fi,t.bs,false⟩
    Z Z Z Z Z Z Z Z Z zo rfl rfl (λ_=>rfl) (λ_=>rfl) sM oR ⟨hR,hM,hE,AS _,λh=>(by cases h),by simp,hJ⟩ ?_ ?_
   ·intro k u F3 hF3 hk hP;obtain⟨hR,hM,hE,hT1,hT2,hC,hJu⟩:=hP;have hi1:=hF3 _ _ hi1;have hr3:=hr2.mono hF3;refine au ?_;refine WT.bG hT hr3 Z Z Z Z Z Z Z Z Z zo (λr hrk b1 off ro cs lx hb hp1 hrel=>?_);obtain⟨b2,n2,d2,rfl,hr4⟩:=hrel;obtain⟨hrl,hrr,hrs⟩:=hg.right r (gM hrk);have hr4l:=hr4.len;refine au ?_;refine WT.aI hT Z Z Z Z Z Z (λi6 hi6=>?_);refine au ?_
    have lk3:∀G,ar.le F3 G->(∀i b,(i,b)∈((is,aD.cells false [.int .i64 g.ae,.int .i64 g.ak,.int .i64 g.start,.slice a m c,.slice (some ⟨ie,0,none⟩) g.ak (if g.ak=0 then 0 else 1),.slice (some ⟨io,0,none⟩) g.ak 1])::(io,.cells false s.vs)::(ie,.cells false (u.E.map aL.cell))::u.bs)->G i=some b)->
      bw cd G (some ⟨ie,0,none⟩) g.ak (if g.ak=0 then 0 else 1) u.E/\bw (cg cd) G (some ⟨io,0,none⟩) g.ak 1 u.Fi:=by
     intro G hG hBG;constructor
     ·have:=cU (K:=aL) (R:=cd) (F:=G) (id:=ie) (row:=u.E) (c:=if u.E.length=0 then 0 else 1) (ro:=false) rfl (λ_ _=>rfl) rfl (hBG ie _ (by simp));rw[hE] at this;exact this
     ·have:=Abs.Rows.arr (K:=aL) (R:=cd) rfl (λ_ _=>rfl) (F:=G) (o:=io) (c:=if u.Fi.length=0 then 0 else 1) (ro:=false) hR (λi b hm=>hBG i b (by simp[hm])) rfl (hBG io _ (by simp));rw[hM.size,By zo] at this;exact this
    refine WT.sN 1 Tryz.func133 Z Z Z Z Z Z Z (λG hG hBG=>wB G (ae:=g.ae) (ak:=g.ak) (hBG is _ me) (lk3 G hG hBG).1 (lk3 G hG hBG).2 hM.row zo (hr4.mono hG) zo hrs) (λv B hv=>?_);obtain⟨ir,rfl,hofl,rfl⟩:=hv;have hRC:pJ g.ae u.E u.Fi r↔aB (u.Fi.getD r.left []) (ofRow u.E u.Fi (List.replicate g.ae false) r.right).1=u.Fi.getD r.left []/\((ofRow u.E u.Fi (List.replicate g.ae false) r.right).2=true->u.E.getD r.left false=true):=Iff.rfl;have hJr:=hJs u.E u.Fi r (gM hrk) hJu
    generalize ofRow u.E u.Fi (List.replicate g.ae false) r.right=fr at hofl hRC hJr ⊢;obtain⟨row,emp⟩:=fr;dsimp only at hofl hRC hJr;have hFl:r.left<u.Fi.length:=by rw[hM.size];exact hrl
    have hrow0:=gE hFl;generalize hrow0':u.Fi[r.left]=cw at hrow0;have holdl:=hM.row cw (gM hrow0);obtain⟨id,cc,hvs,hbs,hcc⟩:=hR.at r.left cw hrow0;rw[holdl] at hvs;have hvs':s.vs[0+r.left*1]?=some (.slice (some ⟨id,0,none⟩) g.ae cc):=by rw[Rn,RQ];exact hvs
    have hgetF:u.Fi.getD r.left []=cw:=by rw[BY,hrow0];rfl
    have hEl:r.left<u.E.length:=by rw[hE];exact hrl
    obtain⟨e0,he0⟩:∃e0,u.E[r.left]?=some e0:=⟨_,gE hEl⟩;have hgetE:u.E.getD r.left false=e0:=by rw[BY,he0];rfl
    have hE0c:(u.E.map aL.cell)[0+r.left*1]?=some (.bool e0):=by rw[Rn,RQ,Re,he0];rfl
    have hol:(aB cw row).length=g.ae:=by rw[fX zo];exact holdl
    have hR':=hR.set r.left cw (aB cw row) id hrow0 zo hbs;have hM':nA g.ak g.ae (u.Fi.set r.left (aB cw row)):=hM.setRow _ hol;have hcnt:=xL (row':=aB cw row) hrow0;have hone:=zS (xs:=cw) (ys:=row) zo;have hset_same:aB cw row=cw->u.Fi.set r.left (aB cw row)=u.Fi:=by
     intro e;rw[e];apply R5;intro i;by_cases hi:i=r.left
     ·subst hi;rw[RA hFl,hrow0]
     ·rw[RO zo]
    rw[hgetF,hgetE] at hRC;rw[hgetF] at hJr;refine au ?_;refine WT.dL (j:=r.left) (s:=1) hT Z Z Z Z Z Z Z Z Z hrl ?_;refine WT.loadAt hT 2 Z Z Z Z Z Z (I9 _ me) Z Z hvs' ?_;refine au ?_;have hpk:=bX hbs;have hps:=gr (id,aD.cells false ((aB cw row).map aL.cell)) hbs
    refine WT.le (own2:=[(ir,.cells false (row.map aL.cell))]::[(id,.cells false (cw.map aL.cell))]::((is,.cells false [.int .i64 g.ae,.int .i64 g.ak,.int .i64 g.start,.slice a m c,.slice (some ⟨ie,0,none⟩) g.ak (if g.ak=0 then 0 else 1),.slice (some ⟨io,0,none⟩) g.ak 1])::(io,.cells false s.vs)::(ie,.cells false (u.E.map aL.cell))::u.bs.eraseIdx r.left)::[(i6,.cells false [.int .i64 r.left,.slice b2 n2 d2])]::own) (ah.flat ?_) ?_
    ·simp only[SC];refine List.Perm.append_left _ ?_;exact uc _ _ [_,_,_] _ _ _ hpk
    refine WT.oU (dh:=λD'=>[(ir,.cells false (row.map aL.cell))]::D'::((is,.cells false [.int .i64 g.ae,.int .i64 g.ak,.int .i64 g.start,.slice a m c,.slice (some ⟨ie,0,none⟩) g.ak (if g.ak=0 then 0 else 1),.slice (some ⟨io,0,none⟩) g.ak 1])::(io,.cells false s.vs)::(ie,.cells false (u.E.map aL.cell))::u.bs.eraseIdx r.left)::[(i6,.cells false [.int .i64 r.left,.slice b2 n2 d2])]::own) 0 1 Tryz.func134 Z Z Z Z Z Z (Rc _) (λ_=>Rc _) (λG hG hBG=>pM G (it:=id) (xs:=cw) (ys:=row) (m:=g.ae) zo (by
     have:=cU (K:=aL) (R:=cd) (F:=G) (id:=ir) (row:=row) (c:=if row.length=0 then 0 else 1) (ro:=false) rfl (λ_ _=>rfl) rfl (hBG ir _ me);rw[hofl] at this;exact this) zo zo) (λv D hv=>?_)
    obtain⟨rfl,rfl⟩:=hv;refine WT.le (own2:=[(ir,.cells false (row.map aL.cell))]::[(i6,.cells false [.int .i64 r.left,.slice b2 n2 d2])]::((is,.cells false [.int .i64 g.ae,.int .i64 g.ak,.int .i64 g.start,.slice a m c,.slice (some ⟨ie,0,none⟩) g.ak (if g.ak=0 then 0 else 1),.slice (some ⟨io,0,none⟩) g.ak 1])::(io,.cells false s.vs)::(ie,.cells false (u.E.map aL.cell))::u.bs.set r.left (id,.cells false ((aB cw row).map aL.cell)))::own) (ah.flat ?_) ?_
    ·simp only[SC];refine List.Perm.append_left _ ?_;exact(uc _ _ [_,_,_] _ _ _ hps).symm
    refine au ?_;have done:∀(E':List Bool) (ag:Bool),(E'=u.E\/(E'=u.E.set r.left true/\e0=false/\ag=true/\emp=true))->(aB cw row≠cw->ag=true)->(u.again=true->ag=true)->(ag=true->u.again=true\/aB cw row≠cw\/fg E'=fg u.E+1)->(ag=false->emp=true->e0=true)->
      (Abs.Rows aL s.vs (u.bs.set r.left (id,.cells false ((aB cw row).map aL.cell))) (u.Fi.set r.left (aB cw row))/\nA g.ak g.ae (u.Fi.set r.left (aB cw row))/\E'.length=g.ak/\fg t.E+dm t.Fi<=fg E'+dm (u.Fi.set r.left (aB cw row))/\(ag=true->fg t.E+dm t.Fi<fg E'+dm (u.Fi.set r.left (aB cw row)))/\(ag=false->∀r'∈g.rules.take (k+1),pJ g.ae E' (u.Fi.set r.left (aB cw row)) r')/\J E' (u.Fi.set r.left (aB cw row))):=by
     intro E' ag hE' h1 h2 h3 h4;have hE1:fg u.E<=fg E'/\E'.length=g.ak:=by
      rcases hE' with rfl | ⟨rfl,h5,_,_⟩
      ·exact⟨AS _,hE⟩
      ·subst h5;rw[nR he0];exact⟨by omega,by simp[hE]⟩
     refine⟨hR',hM',hE1.2,by omega,λhag=>?_,λhag=>?_,hJr E' (hE'.imp (λh=>h) λh=>⟨h.1,h.2.2.2⟩)⟩
     ·rcases h3 hag with h5 | h5 | h5
      ·have:=hT2 h5;omega
      ·have:=hone.2 h5;omega
      ·omega
     ·have hch:aB cw row=cw:=by
       rcases Classical.em (aB cw row=cw) with h5 | h5
       ·exact h5
       ·rw[h1 h5] at hag;cases hag
      have hua:u.again=false:=by
       cases hu:u.again with
       | false=>rfl
       | true=>rw[h2 hu] at hag;cases hag
      have hEE:E'=u.E:=by
       rcases hE' with h5 | ⟨_,_,h5,_⟩
       ·exact h5
       ·rw[h5] at hag;cases hag
      subst hEE;rw[hset_same hch];exact jh hrk (hC hua) (hRC.2 ⟨hch,h4 hag⟩)
    have ownE:∀ag,ah ((λt:FM=>((is,aD.cells false [.int .i64 g.ae,.int .i64 g.ak,.int .i64 g.start,.slice a m c,.slice (some ⟨ie,0,none⟩) g.ak (if g.ak=0 then 0 else 1),.slice (some ⟨io,0,none⟩) g.ak 1])::(io,.cells false s.vs)::(ie,.cells false (t.E.map aL.cell))::t.bs)::own) ⟨u.E.set r.left true,u.Fi.set r.left (aB cw row),u.bs.set r.left (id,.cells false ((aB cw row).map aL.cell)),ag⟩)
      (((is,aD.cells false [.int .i64 g.ae,.int .i64 g.ak,.int .i64 g.start,.slice a m c,.slice (some ⟨ie,0,none⟩) g.ak (if g.ak=0 then 0 else 1),.slice (some ⟨io,0,none⟩) g.ak 1])::(io,.cells false s.vs)::(ie,.cells false ((u.E.map aL.cell).set (0+r.left*1) (.bool true)))::u.bs.set r.left (id,.cells false ((aB cw row).map aL.cell)))::own):=by
     intro ag;refine ah.flat ?_;dsimp only;rw[SA,Rn,RQ];exact Rc _
    refine WT.split 57 Z (λh3=>?_) (λh3=>?_)
    ·have hch:aB cw row≠cw:=Sm h3;refine au ?_;refine WT.split 61 Z (λh4=>?_) (λh4=>?_)
     ·refine au ?_;refine WT.dL (j:=r.left) (s:=1) hT Z Z Z Z Z Z Z Z Z hrl ?_;refine WT.loadAt hT 2 Z Z Z Z Z Z (I9 _ (I9 _ me)) Z Z hE0c ?_;refine au ?_;refine AW.cond Z (λh5=>?_) (λh5=>?_)
      ·have h5:e0=false:=by simpa using h5
       refine au ?_;refine WT.dL (j:=r.left) (s:=1) hT Z Z Z Z Z Z Z Z Z hrl ?_;refine WT.storeAt hT 2 2 Z Z Z Z Z Z Z Z Z Z (by simp;omega) Z Z ?_;refine au ?_;exact⟨_,sM,ah.skip _ (ah.skip _ (ownE true)),done _ true (.inr ⟨rfl,h5,rfl,h4⟩) (λ_=>rfl) (λ_=>rfl) (λ_=>.inr (.inr (by subst h5;exact nR he0))) (λh=>(by cases h))⟩
      ·have h5:e0=true:=by simpa using h5
       refine au ?_;exact⟨⟨u.E,u.Fi.set r.left (aB cw row),u.bs.set r.left (id,.cells false ((aB cw row).map aL.cell)),true⟩,sM,cy,done _ true (.inl rfl) (λ_=>rfl) (λ_=>rfl) (λ_=>.inr (.inl hch)) (λ_ _=>h5)⟩
     ·refine au ?_;refine AW.cond Z (λh5=>(by cases h5)) (λ_=>?_);refine au ?_;exact⟨⟨u.E,u.Fi.set r.left (aB cw row),u.bs.set r.left (id,.cells false ((aB cw row).map aL.cell)),true⟩,sM,cy,done _ true (.inl rfl) (λ_=>rfl) (λ_=>rfl) (λ_=>.inr (.inl hch)) (λ_ he=>(by rw[show emp=false from h4] at he;cases he))⟩
    ·have hch:aB cw row=cw:=by simpa using h3
     refine au ?_;refine WT.split 61 Z (λh4=>?_) (λh4=>?_)
     ·refine au ?_;refine WT.dL (j:=r.left) (s:=1) hT Z Z Z Z Z Z Z Z Z hrl ?_;refine WT.loadAt hT 2 Z Z Z Z Z Z (I9 _ (I9 _ me)) Z Z hE0c ?_;refine au ?_;refine AW.cond Z (λh5=>?_) (λh5=>?_)
      ·have h5:e0=false:=by simpa using h5
       refine au ?_;refine WT.dL (j:=r.left) (s:=1) hT Z Z Z Z Z Z Z Z Z hrl ?_;refine WT.storeAt hT 2 2 Z Z Z Z Z Z Z Z Z Z (by simp;omega) Z Z ?_;refine au ?_;exact⟨_,sM,ah.skip _ (ah.skip _ (ownE true)),done _ true (.inr ⟨rfl,h5,rfl,h4⟩) (λ_=>rfl) (λ_=>rfl) (λ_=>.inr (.inr (by subst h5;exact nR he0))) (λh=>(by cases h))⟩
      ·have h5:e0=true:=by simpa using h5
       refine au ?_;exact⟨⟨u.E,u.Fi.set r.left (aB cw row),u.bs.set r.left (id,.cells false ((aB cw row).map aL.cell)),u.again⟩,sM,cy,done _ u.again (.inl rfl) (λhne=>absurd hch hne) (λh=>h) (λh=>.inl h) (λ_ _=>h5)⟩
     ·refine au ?_;refine AW.cond Z (λh5=>(by cases h5)) (λ_=>?_);refine au ?_;exact⟨⟨u.E,u.Fi.set r.left (aB cw row),u.bs.set r.left (id,.cells false ((aB cw row).map aL.cell)),u.again⟩,sM,cy,done _ u.again (.inl rfl) (λhne=>absurd hch hne) (λh=>h) (λh=>.inl h) (λ_ he=>(by rw[show emp=false from h4] at he;cases he))⟩
   ·intro u F3 hF3 hP;obtain⟨hR,hM,hE,hT1,hT2,hC,hJu⟩:=hP;rw[No zo] at hC;refine⟨u,?_,sM,cy,hR,hM,hE,hC,hJu⟩;have h1:=AO hM;have h2:=qE u.E;rw[h,If rfl];split
    ·rename_i h4;have:=hT2 h4;omega
    ·omega
  ·refine AW.exit ?_;refine AW.aw 0 Z Z (λF3 hF3 hB3=>?_);refine au ?_;have hEa:=cU (K:=aL) (R:=cd) (F:=F3) (id:=ie) (row:=t.E) (c:=if t.E.length=0 then 0 else 1) (ro:=false) rfl (λ_ _=>rfl) rfl (hB3 ie _ (by simp));rw[hE] at hEa;have hFa:=Abs.Rows.arr (K:=aL) (R:=cd) rfl (λ_ _=>rfl) (F:=F3) (o:=io) (c:=if t.Fi.length=0 then 0 else 1) (ro:=false) hR (λi b hm=>hB3 i b (by simp[hm])) rfl (hB3 io _ (by simp));rw[hM.size,By zo] at hFa
   exact AW.ret ⟨_,[],⟨_,_,rfl,rfl,rfl⟩,bU,rfl,is,t.E,t.Fi,rfl,⟨⟨ie,io,_,_,false,hB3 is _ (by simp),hEa,hFa⟩,hM.row,hr2.mono hF3,hC h⟩,hJ,hE,hM.size⟩
def B0(g:af)(E:List Bool)(Fi:List (List Bool)):Prop:=(∀n,E.getD n false=true->GW g n)/\∀n t,(Fi.getD n []).getD t false=true->Ep g n t
theorem oV:∀{xs ys:List Bool} {t:Nat},(aB xs ys).getD t false=true->xs.getD t false=true\/ys.getD t false=true
 | [],_,_,h=>by simp[aB] at h
 | _::_,[],_,h=>by simp[aB] at h
 | x::xs,y::ys,0,h=>by simp only[aB,Ti,List.getD_cons_zero] at h;simpa using h
 | x::xs,y::ys,t+1,h=>by
  simp only[aB,Ti,List.getD_cons_succ] at h;exact oV (xs:=xs) (ys:=ys) h
theorem iW:∀{xs ys:List Bool} {t:Nat},xs.length=ys.length->(xs.getD t false=true\/ys.getD t false=true)->(aB xs ys).getD t false=true
 | [],[],_,_,h=>by simp at h
 | [],_::_,_,hl,_=>by simp at hl
 | _::_,[],_,hl,_=>by simp at hl
 | x::xs,y::ys,0,_,h=>by simp only[aB,Ti,List.getD_cons_zero] at h ⊢;simpa using h
 | x::xs,y::ys,t+1,hl,h=>by
  simp only[aB,Ti,List.getD_cons_succ] at h ⊢;exact iW (xs:=xs) (ys:=ys) (by simpa using hl) h
theorem rB{l:List Bool}{n t:Nat}(h:(l.set n true).getD t false=true):t=n\/l.getD t false=true:=by
 by_cases e:t=n
 ·exact .inl e
 ·right;rw[BY,RO (λe2=>e e2.symm)] at h;rw[BY];exact h
theorem oh{g:af}{E:List Bool}{Fi:List (List Bool)}(h:B0 g E Fi):∀(l:List Sym) (out:List Bool),(∀t,(ofRow E Fi out l).1.getD t false=true->out.getD t false=true\/dj g l t)/\((ofRow E Fi out l).2=true->gG g l)
 | [],out=>⟨λt ht=>.inl ht,λ_=>gG.nil⟩
 | s::l,out=>by
  obtain⟨b,n⟩:=s;unfold ofRow;cases b with
  | true=>
   rw[If rfl];refine⟨λt ht=>?_,λh=>(by cases h)⟩;rcases rB ht with rfl | h2
   ·exact .inr (dj.head (.inl rfl))
   ·exact .inl h2
  | false=>
   rw[By (by simp)];have hrow:∀t,(aB out (Fi.getD n [])).getD t false=true->out.getD t false=true\/dj g (⟨false,n⟩::l) t:=λt ht=>by
    rcases oV ht with h2 | h2
    ·exact .inl h2
    ·exact .inr (dj.head (.inr ⟨rfl,h.2 n t h2⟩))
   split
   ·rename_i hE;obtain⟨h1,h2⟩:=oh h l (aB out (Fi.getD n []));refine⟨λt ht=>?_,λht=>gG.cons rfl (h.1 n hE) (h2 ht)⟩;rcases h1 t ht with h3 | h3
    ·exact hrow t h3
    ·exact .inr (dj.cons rfl (h.1 n hE) h3)
   ·exact⟨λt ht=>hrow t ht,λh=>(by cases h)⟩
theorem iL{n t:Nat}:¬(List.replicate n false).getD t false=true:=by
 rw[BY,Sp];split<;>simp
theorem B0.zero{g:af}:B0 g (List.replicate g.ak false) (List.replicate g.ak (List.replicate g.ae false)):=by
 refine⟨λn h=>absurd h iL,λn t h=>?_⟩;rw[BY,BY,Sp] at h;split at h
 ·rw[<-BY] at h;exact absurd h iL
 ·simp at h
theorem B0.step{g:af}{E:List Bool}{Fi:List (List Bool)}{r:bz}(hr:r∈g.rules)(h:B0 g E Fi){E':List Bool}(hE':E'=E\/(E'=E.set r.left true/\(ofRow E Fi (List.replicate g.ae false) r.right).2=true)) :
  B0 g E' (Fi.set r.left (aB (Fi.getD r.left []) (ofRow E Fi (List.replicate g.ae false) r.right).1)):=by
 obtain⟨h1,h2⟩:=oh h r.right (List.replicate g.ae false);refine⟨λn hn=>?_,λn t hn=>?_⟩
 ·rcases hE' with rfl | ⟨rfl,he⟩
  ·exact h.1 n hn
  ·rcases rB hn with rfl | h3
   ·exact .of hr (h2 he)
   ·exact h.1 n h3
 ·by_cases e:n=r.left
  ·subst e;rw[BY (l:=Fi.set _ _),Tx] at hn;rw[If rfl] at hn;split at hn
   ·rw[Option.getD_some] at hn;rcases oV hn with h3 | h3
    ·exact h.2 _ _ h3
    ·rcases h1 t h3 with h4 | h4
     ·exact absurd h4 iL
     ·exact .of hr h4
   ·simp at hn
  ·rw[BY (l:=Fi.set _ _),RO (λe2=>e e2.symm),<-BY] at hn;exact h.2 n t hn
section
variable {g:af}{E:List Bool}{Fi:List (List Bool)}
theorem yD(hrow:∀n,n<g.ak->(Fi.getD n []).length=g.ae):∀(l:List Sym) (out:List Bool),(∀s∈l,bZ g.ae g.ak s)->out.length=g.ae->(ofRow E Fi out l).1.length=g.ae
 | [],out,_,h=>h
 | s::l,out,hs,h=>by
  unfold ofRow;split
  ·rw[T2];exact h
  ·rename_i ht;have hn:s.n<g.ak:=by have:=hs s me;unfold bZ at this;rw[By ht] at this;exact this
   have h2:(aB out (Fi.getD s.n [])).length=g.ae:=by rw[fX (by rw[h,hrow _ hn])];exact h
   split
   ·exact yD hrow l _ (λx hx=>hs x (I9 _ hx)) h2
   ·exact h2
theorem wx(hrow:∀n,n<g.ak->(Fi.getD n []).length=g.ae){t:Nat}:∀(l:List Sym) (out:List Bool),(∀s∈l,bZ g.ae g.ak s)->out.length=g.ae->out.getD t false=true->(ofRow E Fi out l).1.getD t false=true
 | [],out,_,_,h=>h
 | s::l,out,hs,hl,h=>by
  unfold ofRow;split
  ·rw[BY,Tx];split
   ·split
    ·rfl
    ·rename_i h1 h2;subst h1;rw[BY,Ry zo] at h;simp at h
   ·rw[<-BY];exact h
  ·rename_i ht;have hn:s.n<g.ak:=by have:=hs s me;unfold bZ at this;rw[By ht] at this;exact this
   have h2:(aB out (Fi.getD s.n [])).length=g.ae:=by rw[fX (by rw[hl,hrow _ hn])];exact hl
   have h3:(aB out (Fi.getD s.n [])).getD t false=true:=iW (by rw[hl,hrow _ hn]) (.inl h);split
   ·exact wx hrow l _ (λx hx=>hs x (I9 _ hx)) h2 h3
   ·exact h3
theorem pN:∀(l:List Sym) (out:List Bool),(∀s∈l,s.term=false/\E.getD s.n false=true)->(ofRow E Fi out l).2=true
 | [],_,_=>rfl
 | s::l,out,h=>by
  obtain⟨h1,h2⟩:=h s me;unfold ofRow;rw[By (by rw[h1];simp),If h2];exact pN l _ λx hx=>h x (I9 _ hx)
theorem sq(hrow:∀n,n<g.ak->(Fi.getD n []).length=g.ae){t:Nat}{s:Sym}{post:List Sym}(hs:(s=⟨true,t⟩)\/(s.term=false/\(Fi.getD s.n []).getD t false=true)) :
  ∀(pre:List Sym) (out:List Bool),(∀x∈pre++s::post,bZ g.ae g.ak x)->out.length=g.ae->(∀x∈pre,x.term=false/\E.getD x.n false=true)->(ofRow E Fi out (pre++s::post)).1.getD t false=true
 | [],out,hok,hl,_=>by
  have hso:=hok s (R7 _ me);rcases hs with rfl | ⟨h1,h2⟩
  ·show (ofRow E Fi out (⟨true,t⟩::post)).1.getD t false=true;unfold ofRow;rw[If rfl];have ht:t<g.ae:=hso;show (out.set t true).getD t false=true;rw[BY,RA zo];rfl
  ·have hn:s.n<g.ak:=by unfold bZ at hso;rw[By (by rw[h1];simp)] at hso;exact hso
   show (ofRow E Fi out (s::post)).1.getD t false=true;unfold ofRow;rw[By (by rw[h1];simp)];have h3:(aB out (Fi.getD s.n [])).length=g.ae:=by rw[fX (by rw[hl,hrow _ hn])];exact hl
   have h4:(aB out (Fi.getD s.n [])).getD t false=true:=iW (by rw[hl,hrow _ hn]) (.inr h2);split
   ·exact wx hrow post _ (λx hx=>hok x (R7 _ (I9 _ hx))) h3 h4
   ·exact h4
 | x::pre,out,hok,hl,hp=>by
  obtain⟨h1,h2⟩:=hp x me;have hxo:=hok x me;have hn:x.n<g.ak:=by unfold bZ at hxo;rw[By (by rw[h1];simp)] at hxo;exact hxo
  show (ofRow E Fi out (x::(pre++s::post))).1.getD t false=true;unfold ofRow;rw[By (by rw[h1];simp),If h2];exact sq hrow hs pre _ (λy hy=>hok y (I9 _ hy)) (by rw[fX (by rw[hl,hrow _ hn])];exact hl) λy hy=>hp y (I9 _ hy)
theorem vQ(hc:ew g E Fi){n:Nat}(h:GW g n):E.getD n false=true:=by
 induction h with
 | mk hr h1 h2 ih=>exact(hc _ hr).2 (pN _ _ λs hs=>⟨h1 s hs,ih s hs⟩)
theorem vn(hg:Valid g)(hc:ew g E Fi)(hrow:∀n,n<g.ak->(Fi.getD n []).length=g.ae){t:Nat}:∀{r:bz} {pre post:List Sym} {s:Sym},r∈g.rules->r.right=pre++s::post->gG g pre->((s=⟨true,t⟩)\/(s.term=false/\(Fi.getD s.n []).getD t false=true))->(Fi.getD r.left []).getD t false=true:=by
 intro r pre post s hr e hn hs;obtain⟨hrl,_,hok⟩:=hg.right r hr;rw[e] at hok;have h1:=sq (E:=E) hrow (post:=post) hs pre (List.replicate g.ae false) hok (by simp) (λx hx=>⟨(hn x hx).1,vQ hc (hn x hx).2⟩);have h2:=yD (E:=E) hrow (pre++s::post) (List.replicate g.ae false) hok (by simp);have h3:=(hc r hr).1;rw[e] at h3;rw[<-h3];exact iW (by rw[h2,hrow _ hrl]) (.inr h1)
theorem Dh(hg:Valid g)(hc:ew g E Fi)(hrow:∀n,n<g.ak->(Fi.getD n []).length=g.ae){n t:Nat}(h:Ep g n t):(Fi.getD n []).getD t false=true:=by
 induction h with
 | term hr e hn=>exact vn hg hc hrow hr e hn (.inl rfl)
 | ym hr e hn _ ih=>exact vn hg hc hrow hr e hn (.inr ⟨rfl,ih⟩)
structure C9(g:af)(E:List Bool)(Fi:List (List Bool)):Prop where
 Qj:E.length=g.ak
 Ps:Fi.length=g.ak
 row:∀r∈Fi,r.length=g.ae
 Ow:∀n,E.getD n false=true↔GW g n
 CG:∀n t,(Fi.getD n []).getD t false=true↔Ep g n t
theorem C9.rows(h:C9 g E Fi):∀n,n<g.ak->(Fi.getD n []).length=g.ae:=λn hn=>by
 have:=gE (show n<Fi.length by rw[h.Ps];exact hn);rw[BY,this];exact h.row _ (TG _)
theorem C9.list(h:C9 g E Fi){l:List Sym}(hl:∀s∈l,bZ g.ae g.ak s):(∀t,(ofRow E Fi (List.replicate g.ae false) l).1.getD t false=true↔dj g l t)/\((ofRow E Fi (List.replicate g.ae false) l).2=true↔gG g l):=by
 obtain⟨h1,h2⟩:=oh (E:=E) (Fi:=Fi) ⟨λn hn=>(h.Ow n).1 hn,λn t ht=>(h.CG n t).1 ht⟩ l (List.replicate g.ae false);refine⟨λt=>⟨λht=>(h1 t ht).resolve_left iL,λht=>?_⟩,h2,λhn=>pN _ _ λs hs=>⟨(hn s hs).1,(h.Ow _).2 (hn s hs).2⟩⟩;obtain⟨pre,s,post,rfl,hn,h3⟩:=ht;exact sq h.rows (h3.imp id λh4=>⟨h4.1,(h.CG _ _).2 h4.2⟩) pre _ hl (by simp) λx hx=>⟨(hn x hx).1,(h.Ow _).2 (hn x hx).2⟩
end
theorem Dc(F:ar)(g:af)(hg:Valid g){a:Option Addr}{m c:Nat}(hr:bw bK F a m c g.rules) :
  Abs.Spec CC 131 [.agg ⟨ai g a m c⟩] F [] λF' v o=>o=[]/\∃is E Fi,v=.pointer (some ⟨is,0,none⟩)/\vJ F' is g a m c E Fi/\C9 g E Fi:=
 (DJ F g hg (B0 g) B0.zero (λE Fi r hm h E' hE'=>h.step hm hE') hr).mono λF' v o _ ⟨h1,is,E,Fi,h2,h3,h4,h5,h6⟩=>by
  refine⟨h1,is,E,Fi,h2,h3,h5,h6,h3.row,λn=>⟨h4.1 n,vQ h3.closed⟩,λn t=>⟨h4.2 n t,Dh hg h3.closed λk hk=>?_⟩⟩;have:=gE (show k<Fi.length by rw[h6];exact hk);rw[BY,this];exact h3.row _ (TG _)
end Go.Proofs.D
set_option linter.unusedVariables false
set_option maxRecDepth 20000
set_option maxHeartbeats 0
open Go Go.Abs Go.Proofs Go.Proofs.D
namespace Go.Abs
section
variable {C:Ctx}{T:RT}{t:TypeId}{κ:Type}[DecidableEq κ](K:om C t κ)
variable {n:Nat}{k:bu}{F:ar}{own:a6}{ops rest:List Oper}{o:Oper}{Q:bu->ar->a6->List Rec->Prop}
end
end Go.Abs
namespace Go.Proofs.D
theorem xi(F:ar)(g:af)(hg:Valid g){a:Option Addr}{m c:Nat}(hr:bw bK F a m c g.rules)(x:Nat)(hx:x<=g.rules.length) :
  Abs.Spec CC 144 [.agg ⟨ai g a m c⟩,.int .i64 x] F [] λF' v o=>o=[]/\∃b n d,v=.slice b n d/\bw fh F' b n d (aX g x):=by
 have hml:=hr.len;have hgr:=hg.range.rules;unfold ai;refine Abs.Spec.fn (n:=32) Tryz.func144 rfl rfl λown=>?_;refine AW.seq (AW.du ?_);refine WT.cC Z Z Z Z Z Z (λi2 hi2=>?_);refine au ?_;refine AW.block ?_;refine au ?_;refine AW.cond Z (λh=>?_) (λh=>?_)
 ·have h:x=g.rules.length:=by simp at h;omega
  refine au ?_;refine WT.bN Tryz.func84 Z Z Z Z Z Z (qJ _ _) (λv hv=>?_);subst hv;refine WT.bd hT Z Z Z Z Z Z Z Z Z Z Z Z Z Z (λi5 hi5=>?_);refine au ?_;refine AW.aw 0 Z Z (λF2 hF2 hB2=>?_);have hb:dy fh F (some ⟨i5,0,none⟩) 1 2 [(i5,.cells false [.bool false,.int .i64 g.start])] [⟨false,g.start⟩]:=⟨rfl,.inr ⟨i5,_,rfl,rfl,rfl,aF.single (R:=fh) (x:=⟨false,g.start⟩) rfl,by decide⟩⟩;refine AW.ret ⟨_,[],⟨_,_,rfl,rfl,rfl⟩,bU,rfl,_,_,_,rfl,?_⟩;rw[h,eB];exact hb.frozen hF2 hB2
 ·have h:x<m:=by simp at h;omega
  refine au ?_;refine AW.cond Z (λh=>(by simp at h;omega)) (λ_=>?_);refine au ?_;refine WT.bG hT hr Z Z Z Z Z Z Z Z Z zo (λr hrx b5 off5 ro5 cs5 lx5 hb5 hp5 hrel5=>?_);obtain⟨ra,rn,rc,rfl,hra⟩:=hrel5;have hral:=hra.len;have hr4:=(hg.right r (gM hrx)).2.1;refine au ?_;refine WT.lC Tryz.func107 Z Z Z Z Z Z (pz _ hra zo) (λF2 v B2 hF2 hv=>?_);obtain⟨ca,cc,rfl,hv⟩:=hv;refine au ?_;refine AW.aw 0 Z Z (λF3 hF3 hB3=>?_);refine AW.ret ⟨_,[],⟨_,_,rfl,rfl,rfl⟩,bU,rfl,_,_,_,rfl,?_⟩;rw[cf hrx];exact hv.arr hF3 hB3
theorem Mx(p q:Lr):(((p.aA:Int)==(q.aA:Int))&&(((p.dot:Int)==(q.dot:Int))&&true))=decide (p=q):=by
 rw[SH];obtain⟨a,b⟩:=p;obtain⟨a',b'⟩:=q;simp only[IN,Sb,RS,Lr.mk.injEq,Ui];omega
noncomputable def lM:om CC 181 Lr where
 key:=λx=>.agg ⟨[.int .i64 x.aA,.int .i64 x.dot]⟩
 ok:=λp=>uD hT 8 _ _ rfl
 eq:=λp q=>by
  have h:tK CC 8 181 (.agg ⟨[.int .i64 p.aA,.int .i64 p.dot]⟩) (.agg ⟨[.int .i64 q.aA,.int .i64 q.dot]⟩)=some (decide (p=q)):=by
   rw[<-Mx];exact vC hT 8 _ _ _ _ rfl
  by_cases e:p=q
  ·exact .inl ⟨e,by rw[h];simp[e]⟩
  ·exact .inr ⟨e,by rw[h];simp[e]⟩
def JL(es:cQ Lr)(x:Lr):Value:=(Abs.look es x).getD (.int .u32 0)
def Ox(es:cQ Lr)(x:Lr):Value:=(Abs.look es x).getD (.bool false)
noncomputable def bM(g:af)(x:Lr):Nat:=bC (dj g (cD g x)) g.ae
noncomputable def eM(g:af)(x:Lr):Bool:=@decide (gG g (cD g x)) (Classical.propDecidable _)
structure vW(F:ar)(im:Nat)(g:af)(ra:Option Addr)(rm rc:Nat)(E:List Bool)(Fi:List (List Bool))(is:Nat)(eb ee:cQ Lr):Prop where
 bp:∃ib ie ro,F im=some (.cells ro [.int .i64 g.ae,.int .i64 g.ak,.int .i64 g.start,.slice ra rm rc,.pointer (some ⟨is,0,none⟩),.map (some ib),.map (some ie)])/\F ib=some (.map (aK lM eb))/\F ie=some (.map (aK lM ee))
 jo:vJ F is g ra rm rc E Fi
 Ol:C9 g E Fi
 CG:∀x y,aR g x=some y->JL eb x=.int .u32 (bM g x:Nat)
 Ow:∀x y,aR g x=some y->Ox ee x=.bool (eM g x)
structure PZ where
 eb:cQ Lr
 ee:cQ Lr
def ql(g:af)(r d:Nat)(x:Lr):Prop:=(x.aA<r/\x.dot<(aX g x.aA).length)\/(x.aA=r/\x.dot<d)
def N4(g:af)(D:Lr->Prop)(eb ee:cQ Lr):Prop:=∀x,(D x->JL eb x=.int .u32 (bM g x:Nat)/\Ox ee x=.bool (eM g x))/\(¬D x->JL eb x=.int .u32 0)
theorem N4.congr{g:af}{D D':Lr->Prop}{eb ee:cQ Lr}(h:N4 g D eb ee)(hD:∀x,D x↔D' x):N4 g D' eb ee:=λx=>⟨λh1=>(h x).1 ((hD x).2 h1),λh1=>(h x).2 λh2=>h1 ((hD x).1 h2)⟩
theorem Az(es:cQ Lr)(k x:Lr)(v:Value):JL (dX es k v) x=if x=k then v else JL es x:=by
 unfold JL;rw[jM];split<;>rfl
theorem Cj(es:cQ Lr)(k x:Lr)(v:Value):Ox (dX es k v) x=if x=k then v else Ox es x:=by
 unfold Ox;rw[jM];split<;>rfl
theorem vA{x t:Nat}(h:x<2 ^ t):x ||| 1*2 ^ t=x+2 ^ t:=by
 have:=Nat.two_pow_add_eq_or_of_lt h 1;rw[RQ] at this;rw[SW,Nat.or_comm,<-this,TW]
theorem vJ.mono{F G:ar}{is:Nat}{g:af}{ra:Option Addr}{rm rc:Nat}{E:List Bool}{Fi:List (List Bool)}(h:vJ F is g ra rm rc E Fi)(hF:ar.le F G):vJ G is g ra rm rc E Fi:=by
 obtain⟨ie,io,ce,co,ro,h1,h2,h3⟩:=h.bp;exact⟨⟨ie,io,ce,co,ro,hF _ _ h1,h2.mono hF,h3.mono hF⟩,h.row,h.rules.mono hF,h.closed⟩
theorem xw(F:ar)(g:af)(hg:Valid g){a:Option Addr}{m c:Nat}(hr:bw bK F a m c g.rules) :
  Abs.Spec CC 95 [.agg ⟨ai g a m c⟩] F [] λF' v o=>o=[]/\∃im E Fi is eb ee,v=.pointer (some ⟨im,0,none⟩)/\vW F' im g a m c E Fi is eb ee:=by
 have hrl:=hr.len;have hgr:=hg.range.rules;have hgt:=hg.range.ae;have hgn:=hg.range.ak;unfold ai;refine Abs.Spec.fn (n:=78) Tryz.func95 rfl rfl λown=>?_;refine AW.seq (AW.du ?_);refine WT.cC Z Z Z Z Z Z (λi1 hi1=>?_);refine au ?_;refine AW.draw (ps:=[(0,2),(0,3),(0,4),(1,3),(1,4)]) Z Z ?_;refine au ?_;have hmk:=Dc F g hg hr;unfold ai at hmk;refine WT.dH Tryz.func131 Z Z Z Z Z Z hmk (λF1 v hF1 hv=>?_);obtain⟨is,E,Fi,rfl,hS,hFS⟩:=hv;refine WT.makeMap Z Z Z Z (λib hib=>?_);refine WT.makeMap Z Z Z Z (λie hie=>?_);refine au ?_
 refine WT.cC Z Z Z Z Z Z (λim him=>?_);refine au ?_;refine⟨oF,?_⟩;refine au ?_;refine AW.range (S:=PZ) (λ_=>[]) (λs=>[(im,.cells false [.int .i64 g.ae,.int .i64 g.ak,.int .i64 g.start,.slice a m c,.pointer (some ⟨is,0,none⟩),.map (some ib),.map (some ie)])]::[(ie,.map (aK lM s.ee))]::[(ib,.map (aK lM s.eb))]::[(i1,.cells false [.int .i64 g.ae,.int .i64 g.ak,.int .i64 g.start,.slice a m c])]::own)
  (λj s G=>N4 g (ql g j 0) s.eb s.ee) (m+1) ⟨[],[]⟩
  Z Z Z Z Z Z Z Z Z zo rfl rfl (λ_=>rfl) (λ_=>rfl) sM oR (λx=>⟨λh=>(by unfold ql at h;omega),λ_=>rfl⟩) ?_ ?_
 ·intro j s F2 hF2 hj hI;have hr2:=(hr.mono hF1).mono hF2;refine au ?_;have hrt:=xi F2 g hg hr2 j zo;unfold ai at hrt;refine WT.dH Tryz.func144 Z Z Z Z Z Z hrt (λF3 v hF3 hv=>?_);obtain⟨ya,yn,yc,rfl,hy⟩:=hv;have hyl:=hy.len;have hyok:=sS hg j;have hy4:(aX g j).length<=4:=by
   unfold aX;split
   ·simp
   ·cases hq:g.rules[j]? with
    | none=>simp
    | some r=>exact(hg.right r (gM hq)).2.1
  refine au ?_;refine AW.range (S:=PZ) (λ_=>[]) (λs=>[(im,.cells false [.int .i64 g.ae,.int .i64 g.ak,.int .i64 g.start,.slice a m c,.pointer (some ⟨is,0,none⟩),.map (some ib),.map (some ie)])]::[(ie,.map (aK lM s.ee))]::[(ib,.map (aK lM s.eb))]::[(i1,.cells false [.int .i64 g.ae,.int .i64 g.ak,.int .i64 g.start,.slice a m c])]::own)
   (λe s G=>N4 g (ql g j e) s.eb s.ee) yn s
   Z Z Z Z Z Z Z Z Z zo rfl rfl (λ_=>rfl) (λ_=>rfl) sM oR hI ?_ ?_
  ·intro e s F4 hF4 he hI;have hy4':=hy.mono hF4;have hF14:=(hF2.trans hF3).trans hF4;refine aj ?_;obtain⟨ra,rc,hrs,hra⟩:=hy4'.slice (C:=CC) (lo:=e+1) (hi:=yn) zo (AS _) hT (t:=87) Z Z Z (some (.int .i64 ((e+1:Nat):Int))) none (by simp[cZ];omega) rfl;refine WT.slice Z Z Z Z Z Z Z Z hrs ?_;rw[No zo] at hra;have hS4:=hS.bp;obtain⟨ie0,io0,ce0,co0,ro0,hb0,hE0,hFi0⟩:=hS4;have hlst:=hFS.list (l:=(aX g j).drop (e+1)) (λy hy=>hyok y (S2 hy))
   refine WT.lC Tryz.func133 Z Z Z Z Z Z (wB F4 (hF14 _ _ hb0) (hE0.mono hF14) (hFi0.mono hF14) hS.row zo hra zo (λy hy=>hyok y (S2 hy))) (λF5 v B5 hF5 hv=>?_);obtain⟨ir,rfl,hrl5,rfl⟩:=hv;refine WT.aw 0 Z Z (λF6 hF6 hB6=>?_);have hrow:bw cd F6 (some ⟨ir,0,none⟩) g.ae (if g.ae=0 then 0 else 1) (ofRow E Fi (List.replicate g.ae false) ((aX g j).drop (e+1))).1:=by
    have:=cU (K:=aL) (R:=cd) (F:=F6) (id:=ir) (row:=(ofRow E Fi (List.replicate g.ae false) ((aX g j).drop (e+1))).1) (c:=if (ofRow E Fi (List.replicate g.ae false) ((aX g j).drop (e+1))).1.length=0 then 0 else 1) (ro:=false) rfl (λ_ _=>rfl) rfl (hB6 ir _ me);rw[hrl5] at this;exact this
   have hrest:(aX g j).drop (e+1)=cD g ⟨j,e⟩:=rfl;rw[hrest] at hlst hrow hrl5 ⊢;generalize ofRow E Fi (List.replicate g.ae false) (cD g ⟨j,e⟩)=fr at hlst hrow hrl5 ⊢;obtain⟨row,emp⟩:=fr;dsimp only at hlst hrow hrl5;have hx0:JL s.eb ⟨j,e⟩=.int .u32 0:=(hI ⟨j,e⟩).2 (by unfold ql;dsimp only;omega);refine aj ?_;refine WT.aI hT Z Z Z Z Z Z (λi9 hi9=>?_);refine aj ?_
   refine AW.range (S:=cQ Lr) (λ_=>[]) (λeb=>[(i9,.cells false [.int .i64 j,.int .i64 e])]::[]::[(im,.cells false [.int .i64 g.ae,.int .i64 g.ak,.int .i64 g.start,.slice a m c,.pointer (some ⟨is,0,none⟩),.map (some ib),.map (some ie)])]::[(ie,.map (aK lM s.ee))]::[(ib,.map (aK lM eb))]::[(i1,.cells false [.int .i64 g.ae,.int .i64 g.ak,.int .i64 g.start,.slice a m c])]::own)
    (λt eb G=>(∀x,x≠⟨j,e⟩->JL eb x=JL s.eb x)/\JL eb ⟨j,e⟩=.int .u32 (bC (dj g (cD g ⟨j,e⟩)) t:Nat)) g.ae s.eb
    Z Z Z Z Z Z Z Z Z zo rfl rfl (λ_=>rfl) (λ_=>rfl) sM oR ⟨λ_ _=>rfl,hx0⟩ ?_ ?_
   ·intro t eb F7 hF7 ht hI2;obtain⟨hoth,hcur⟩:=hI2;have hrow7:=hrow.mono hF7;refine aj ?_;refine WT.bG hT hrow7 Z Z Z Z Z Z Z Z Z zo (λok hok b5 off5 ro5 cs5 lx5 hb5 hp5 hrel5=>?_);obtain rfl:lx5=_:=hrel5;have hbit:ok=true↔dj g (cD g ⟨j,e⟩) t:=by
     rw[<-hlst.1 t,BY,hok];rfl
    refine aj ?_;refine AW.cond Z (λh=>?_) (λh=>?_)
    ·have hbg:=hbit.1 h;have hlt:=jR (dj g (cD g ⟨j,e⟩)) t;have hnew:bC (dj g (cD g ⟨j,e⟩)) (t+1)=bC (dj g (cD g ⟨j,e⟩)) t+2 ^ t:=by
      show _+(if _ then 2 ^ t else 0)=_;rw[If (@decide_eq_true _ (Classical.propDecidable _) hbg)]
     refine AW.draw (ps:=[(5,9),(8,9)]) Z Z ?_;refine aj ?_;refine WT.Jg lM hT 4 (m:=eb) (key:=⟨j,e⟩) Z Z Z Z Z Z Z me Z Z Z ?_;refine WT.iE (v':=.int .u32 (bC (dj g (cD g ⟨j,e⟩)) t:Nat)) 62 Z (by exact hcur) ?_;refine aj ?_;have hp8:2 ^ t<=256:=AI (Rz (by decide) (show t<=8 by omega)) (by decide);refine WT.AL (x:=1) (y:=t) Z Z Z Z Z Z zo zo ?_;refine WT.DI (x:=bC (dj g (cD g ⟨j,e⟩)) t) (y:=1*2 ^ t) Z Z Z Z Z Z zo zo ?_;refine WT.iE (v':=.int .u32 (bC (dj g (cD g ⟨j,e⟩)) (t+1):Nat)) 65 Z (by rw[hnew,vA hlt]) ?_
     refine WT.mapEntry lM hT 4 0 (m:=eb) (key:=⟨j,e⟩) Z Z Z Z Z Z Z Z Z Z Z Z Z ?_;refine aj ?_;refine WT.entryStore lM 4 0 (m:=mu eb ⟨j,e⟩ (.int .u32 0)) (key:=⟨j,e⟩) Z Z Z Z (by rw[yx];rfl) Z Z Z (yC _ _ _) Z Z ?_;rw[xS];refine aj ?_;refine⟨FD rfl rfl (by decide) (λh2 s2=>nC lM hT (m2:=mu eb ⟨j,e⟩ (.int .u32 0)) Z Z Z Z Z Z (s2.has (p:=4) rfl me) (by rw[yC];rfl)) (k5 rfl rfl Bi trivial),?_⟩;refine⟨dX eb ⟨j,e⟩ (.int .u32 (bC (dj g (cD g ⟨j,e⟩)) (t+1):Nat)),sM,cy,λx hx=>?_,?_⟩
     ·rw[Az,By hx];exact hoth x hx
     ·rw[Az,If rfl]
    ·have hno:¬dj g (cD g ⟨j,e⟩) t:=λh2=>by rw[hbit.2 h2] at h;cases h
     refine aj ?_;refine⟨eb,sM,cy,hoth,?_⟩;rw[hcur];show _=Value.int .u32 ((_+(if _ then 2 ^ t else 0):Nat):Int);rw[By (λh2=>hno (@of_decide_eq_true _ (Classical.propDecidable _) h2)),SJ]
   ·intro eb F7 hF7 hI2;obtain⟨hoth,hcur⟩:=hI2;refine aj ?_;refine WT.sO lM hT 3 0 (m:=s.ee) (key:=⟨j,e⟩) Z Z Z Z Z Z Z Z Z Z Z Z ?_;refine aj ?_;refine⟨⟨eb,dX s.ee ⟨j,e⟩ (.bool emp)⟩,sM,cy,λx=>?_⟩;have hemp:emp=eM g ⟨j,e⟩:=by
     unfold eM;cases emp with
     | true=>exact(@decide_eq_true _ (Classical.propDecidable _) (hlst.2.1 rfl)).symm
     | false=>exact(@decide_eq_false _ (Classical.propDecidable _) (λh=>by have:=hlst.2.2 h;cases this)).symm
    by_cases hx:x=⟨j,e⟩
    ·subst hx;refine⟨λ_=>⟨hcur,?_⟩,λh=>absurd (.inr ⟨rfl,SK _⟩) h⟩;rw[Cj,If rfl,hemp]
    ·obtain⟨h1,h2⟩:=hI x;have hD:ql g j (e+1) x↔ql g j e x:=by
      obtain⟨xr,xd⟩:=x;unfold ql;simp only[Lr.mk.injEq,not_and] at hx;constructor
      ·rintro(h | ⟨h3,h4⟩)
       ·exact .inl h
       ·exact .inr ⟨h3,by have:=hx h3;have h4:xd<e+1:=h4;show xd<e;omega⟩
      ·rintro(h | ⟨h3,h4⟩)
       ·exact .inl h
       ·exact .inr ⟨h3,by dsimp only at h4 ⊢;omega⟩
     refine⟨λh=>?_,λh=>?_⟩
     ·obtain⟨h3,h4⟩:=h1 (hD.1 h);refine⟨by rw[hoth x hx];exact h3,?_⟩;rw[Cj,By hx];exact h4
     ·rw[hoth x hx];exact h2 λh3=>h (hD.2 h3)
  ·intro s F4 hF4 hI;refine⟨s,sM,cy,hI.congr λx=>?_⟩;unfold ql;constructor
   ·rintro(⟨h1,h2⟩ | ⟨h1,h2⟩)
    ·exact .inl ⟨by omega,h2⟩
    ·exact .inl ⟨by omega,by rw[h1];omega⟩
   ·rintro(⟨h1,h2⟩ | ⟨h1,h2⟩)
    ·by_cases h3:x.aA<j
     ·exact .inl ⟨h3,h2⟩
     ·obtain h3:x.aA=j:=by omega
      exact .inr ⟨h3,by rw[h3] at h2;omega⟩
    ·omega
 ·intro s F2 hF2 hI;refine aj ?_;refine AW.aw 0 Z Z (λF3 hF3 hB3=>?_);refine AW.aw 1 Z Z (λF4 hF4 hB4=>?_);refine AW.aw 2 Z Z (λF5 hF5 hB5=>?_);have hdone:∀x y,aR g x=some y->ql g (m+1) 0 x:=λx y h=>by
   rw[bq] at h;have h2:=(gS h).1;refine .inl ⟨?_,h2⟩;rcases Rw g.rules.length x.aA with h3 | h3
   ·unfold aX at h2;rw[By zo,Ry (l:=g.rules) (i:=x.aA) zo] at h2;simp at h2
   ·omega
  have hF25:=((hF2.trans hF3).trans hF4).trans hF5;refine AW.ret ⟨_,[],⟨_,_,rfl,rfl,rfl⟩,bU,rfl,im,E,Fi,is,s.eb,s.ee,rfl,⟨ib,ie,false,hF5 _ _ (hF4 _ _ (hB3 im _ me)),hB5 ib _ me,hF5 _ _ (hB4 ie _ me)⟩,hS.mono hF25,hFS,λx y h=>((hI x).1 (hdone x y h)).1,λx y h=>((hI x).1 (hdone x y h)).2⟩
theorem sT{g:af}(ht:g.ae<=8):2 ^ (g.ae+1)<=512:=AI (Rz (by decide) (show g.ae+1<=9 by omega)) (by decide)
structure Q7 where
 a:Option Addr
 m:Nat
 c:Nat
 B:List (Nat×aD)
 es:cQ Lr
theorem vW.mono{F G:ar}{im is:Nat}{g:af}{a:Option Addr}{m c:Nat}{E:List Bool}{Fi:List (List Bool)}{eb ee:cQ Lr}(h:vW F im g a m c E Fi is eb ee)(hF:ar.le F G):vW G im g a m c E Fi is eb ee:=by
 obtain⟨ib,ie,ro,h1,h2,h3⟩:=h.bp;exact⟨⟨ib,ie,ro,hF _ _ h1,hF _ _ h2,hF _ _ h3⟩,h.jo.mono hF,h.Ol,h.CG,h.Ow⟩
structure QX where
 es:cQ Lr
 S:Lr->Nat
 again:Bool
noncomputable def LN(g:af)(st:List bL)(y:Sym):Option (List bL):=if jl g st y=[] then none else some (dr g (jl g st y))
structure QQ where
 a:Option Addr
 m:Nat
 c:Nat
 B:List (Nat×aD)
 l:List bL
def M7(l:List bL):List Value:=(l.map P6).flatten
structure LT(vs:List Value)(bs:List (Nat×aD))(L:List (List bL)):Prop where
 Qo:vs.length=L.length
 QA:bs.length=L.length
 at_:∀k l,L[k]?=some l->∃id,vs[0+k*1]?=some (.slice (some ⟨id,0,none⟩) l.length 3)/\bs[k]?=some (id,.cells false (M7 l))
structure QZ where
 cur:List bL
 ch:Bool
def gP(n:Nat)(ys:List Bool):List Bool:=ys++List.replicate (n-ys.length) false
theorem kg{n:Nat}{ys:List Bool}(h:ys.length<=n):(gP n ys).length=n:=by unfold gP;simp;omega
theorem AE{n:Nat}{ys:List Bool}{t:Nat}:(gP n ys).getD t false=ys.getD t false:=by
 unfold gP;rw[BY,BY,List.getElem?_append];split
 ·rfl
 ·rename_i h;rw[Ry (l:=ys) zo,Sp];split<;>rfl
theorem Ip{xs ys:List Bool}(h:ys.length<=xs.length):o5 ys.length xs (gP xs.length ys)=aB xs (gP xs.length ys):=by
 rw[<-Bu (kg h).symm];have:∀k,ys.length+k<=xs.length->o5 (ys.length+k) xs (gP xs.length ys)=o5 ys.length xs (gP xs.length ys):=by
  intro k
  induction k with
  | zero=>intro _;rfl
  | succ k ih=>
   intro hk;have hx:=gE (show ys.length+k<xs.length by omega);have hy:(gP xs.length ys)[ys.length+k]?=some false:=by
    unfold gP;rw[Rs zo,Sp,If zo]
   rw[show ys.length+(k+1)=ys.length+k+1 by omega,sX (kg h).symm hx hy,ih zo,Bool.or_false];rw[<-ih zo];apply R5;intro i;by_cases hi:i=ys.length+k
   ·subst hi;rw[RA (by rw[uV (kg h).symm];omega),rM (kg h).symm hx]
   ·rw[RO zo]
 have:=this (xs.length-ys.length) zo;rw[show ys.length+(xs.length-ys.length)=xs.length by omega] at this;exact this.symm
theorem Cf(F:ar){it:Nat}{xs ys:List Bool}{b:Option Addr}{m n c d:Nat}(hm:m=xs.length)(hy:bw cd F b n d ys)(hlen:ys.length<=xs.length)(hn:n<=1000000) :
  Abs.Spec CC 134 [.slice (some ⟨it,0,none⟩) m c,.slice b n d] F [[(it,.cells false (xs.map aL.cell))]] λ_ v o=>∃B',o=[B']/\B'=[(it,.cells false ((aB xs (gP xs.length ys)).map aL.cell))]/\v=.bool (decide (aB xs (gP xs.length ys)≠xs)):=by
 have hylen:=hy.len;have hpl:=(kg hlen).symm;have hopad:=Ip hlen;have hpat:∀(j:Nat) (y:Bool),ys[j]?=some y->(gP xs.length ys)[j]?=some y:=λj y h=>by
  unfold gP;rw[Rj (gS h).1];exact h
 generalize gP xs.length ys=zs at hpl hopad hpat;refine Abs.Spec.fn (n:=28) Tryz.func134 rfl rfl λown=>?_;refine aj ?_;refine AW.range (S:=US) (λs=>[(5,.bool s.ch)]) (λs=>[(it,.cells false (s.cur.map aL.cell))]::own) (λj s G=>s.cur=o5 j xs zs/\s.ch=decide (s.cur≠xs)) n ⟨xs,false⟩ Z Z Z Z Z Z Z Z Z zo Z Z (λ_=>rfl) (λ_=>rfl) sM oR ⟨(yq xs zs).symm,by simp⟩ ?_ ?_
 ·intro j s F1 hF1 hj hP;obtain⟨hcur,hch⟩:=hP;have hy1:=hy.mono hF1;obtain⟨x,hx⟩:∃x,xs[j]?=some x:=⟨_,gE zo⟩;have hcl:s.cur.length=xs.length:=by rw[hcur];exact uV hpl
  have hcx:(s.cur.map aL.cell)[0+j*1]?=some (.bool x):=by rw[Rn,RQ,Re,hcur,rM hpl hx];rfl
  refine aj ?_;refine WT.bG hT hy1 Z Z Z Z Z Z Z Z Z zo (λy hyj b1 off ro cs lx hb hp hrel=>?_);obtain rfl:lx=_:=hrel;have hnext:=sX hpl hx (hpat j y hyj);rw[<-hcur] at hnext;have same:(x||y)=x->s.cur.set j (x||y)=s.cur:=by
   intro e;rw[e];apply R5;intro i;by_cases hi:i=j
   ·subst hi;rw[RA zo,hcur,rM hpl hx]
   ·rw[RO zo]
  refine aj ?_;refine WT.split 16 Z (λh=>?_) (λh=>?_)
  ·refine aj ?_;refine WT.dL (j:=j) (s:=1) hT Z Z Z Z Z Z Z Z Z zo ?_;refine WT.loadAt hT 0 Z Z Z Z Z Z me Z Z hcx ?_;refine aj ?_;refine AW.cond Z (λh2=>?_) (λh2=>?_)
   ·have h2:x=false:=by simpa using h2
    refine aj ?_;refine WT.dL (j:=j) (s:=1) hT Z Z Z Z Z Z Z Z Z zo ?_;refine WT.storeAt hT 0 0 Z Z Z Z Z Z Z Z Z Z (by simp;omega) Z Z ?_;refine aj ?_;refine⟨⟨s.cur.set j true,true⟩,sM,ah.flat ?_,?_,?_⟩
    ·dsimp only;rw[SA,Rn,RQ];exact Rc _
    ·rw[hnext,h,h2];rfl
    ·have:s.cur.set j true≠xs:=by
      intro e;have this:(s.cur.set j true)[j]?=xs[j]?:=by rw[e]
      rw[RA zo,hx,h2] at this;cases this
     simp[this]
   ·have h2:x=true:=by simpa using h2
    refine aj ?_;refine⟨s,sM,cy,?_,hch⟩;rw[hnext,same (by rw[h2];rfl)]
  ·refine aj ?_;refine AW.cond Z (λh2=>(by cases h2)) (λh2=>?_);refine aj ?_;refine⟨s,sM,cy,?_,hch⟩;rw[hnext,same (by rw[h];simp)]
 ·intro s F1 hF1 hP;obtain⟨hcur,hch⟩:=hP;rw[show n=ys.length by omega,hopad] at hcur;refine aj ?_;refine AW.ret ⟨_,[_],⟨_,_,rfl,rfl,rfl⟩,RM _,_,rfl,by rw[<-hcur],?_⟩;rw[<-hcur,<-hch];rfl
theorem vc(F:ar){it:Nat}{xs:List Bool}{m c d:Nat}(hm:m=xs.length)(hn:m<=1000000) :
  Abs.Spec CC 134 [.slice (some ⟨it,0,none⟩) m c,.slice (some ⟨it,0,none⟩) m d] F [[(it,.cells false (xs.map aL.cell))]] λ_ v o=>∃B',o=[B']/\B'=[(it,.cells false (xs.map aL.cell))]/\v=.bool false:=by
 refine Abs.Spec.fn (n:=28) Tryz.func134 rfl rfl λown=>?_;refine aj ?_;refine AW.range (S:=Unit) (λs=>[(5,.bool false)]) (λs=>[(it,.cells false (xs.map aL.cell))]::own) (λj s G=>True) m () Z Z Z Z Z Z Z Z Z zo Z Z (λ_=>rfl) (λ_=>rfl) sM oR trivial ?_ ?_
 ·intro j s F1 hF1 hj hP;obtain⟨x,hx⟩:∃x,xs[j]?=some x:=⟨_,gE zo⟩;have hcx:(xs.map aL.cell)[0+j*1]?=some (.bool x):=by rw[Rn,RQ,Re,hx];rfl
  refine aj ?_;refine WT.dL (j:=j) (s:=1) hT Z Z Z Z Z Z Z Z Z zo ?_;refine WT.loadAt hT 0 Z Z Z Z Z Z me Z Z hcx ?_;refine aj ?_;refine WT.split 16 Z (λh=>?_) (λh=>?_)
  ·refine aj ?_;refine WT.dL (j:=j) (s:=1) hT Z Z Z Z Z Z Z Z Z zo ?_;refine WT.loadAt hT 0 Z Z Z Z Z Z me Z Z hcx ?_;refine aj ?_;refine AW.cond Z (λh2=>?_) (λh2=>?_)
   ·have h2:x=false:=by simpa using h2
    rw[h2] at h;cases h
   ·refine aj ?_;exact⟨(),sM,cy,trivial⟩
  ·refine aj ?_;refine AW.cond Z (λh2=>(by cases h2)) (λh2=>?_);refine aj ?_;exact⟨(),sM,cy,trivial⟩
 ·intro s F1 hF1 hP;refine aj ?_;exact AW.ret ⟨_,[_],⟨_,_,rfl,rfl,rfl⟩,RM _,_,rfl,rfl,rfl⟩
theorem uf(F:ar)(x:Nat)(s:Value)(hs:∃a m c,s=.slice a m c) :
  Abs.Spec CC 218 [.agg ⟨[.int .i64 x,s]⟩] F [] λ_ v o=>o=[]/\v=.bool true:=by
 obtain⟨a,m,c,rfl⟩:=hs;refine Abs.Spec.fn (n:=3) Tryz.func218 rfl rfl λown=>?_;refine AW.seq (AW.du ?_);refine WT.cC Z Z Z Z Z Z (λi3 hi3=>?_);refine aj ?_;exact AW.ret ⟨_,[],⟨_,_,rfl,rfl,rfl⟩,bU,rfl,rfl⟩
structure O9 where
 O:List Bool
 again:Bool
def LC(O:List Bool)(r:bz):Prop:=O.getD r.left false=true->∀s∈r.right,s.term=false->O.getD s.n false=true
structure Hx(g:af)(O:List Bool):Prop where
 len:O.length=g.ak
 at_:∀n,O.getD n false=true↔yg g n
theorem A3{l:List Bool}{n:Nat}(h:n<l.length):(l.set n true).getD n false=true:=by rw[BY,RA h];rfl
theorem HX{l:List Bool}{n t:Nat}(h:l.getD t false=true):(l.set n true).getD t false=true:=by
 rw[BY] at h ⊢;rw[Tx];split
 ·split
  ·rfl
  ·rename_i h1 h2;subst h1;rw[Ry zo] at h;exact h
 ·exact h
theorem yX(F:ar)(g:af)(hg:Valid g){a:Option Addr}{m c:Nat}(hr:bw bK F a m c g.rules) :
  Abs.Spec CC 217 [.agg ⟨ai g a m c⟩,.func (.func 218) ⟨[]⟩ ⟨[]⟩] F [] λF' v o=>o=[]/\∃a' c' O,v=.slice a' g.ak c'/\bw cd F' a' g.ak c' O/\Hx g O:=by
 unfold ai;have hrlen:=hr.len;have hgr:=hg.range.rules;have hgn:=hg.range.ak;have hgs:=hg.range.start;refine Abs.Spec.fn (n:=63) Tryz.func217 rfl rfl λown=>?_;refine AW.seq (AW.du ?_);refine WT.cC Z Z Z Z Z Z (λi2 hi2=>?_);refine aj ?_;refine WT.nD (l:=g.ak) hT Z Z Z Z Z Z Z Z Z Z Z Z kq (λie hie=>?_);rw[mj];refine aj ?_;have hgst:g.start<g.ak:=hgs;refine WT.dL (j:=g.start) (s:=1) hT Z Z Z Z Z Z Z Z Z hgst ?_;refine WT.storeAt hT 0 0 Z Z Z Z Z Z Z Z Z Z (by simp;omega) Z Z ?_;refine aj ?_;refine AW.block ?_
 refine AW.cK (S:=O9) (λt=>[(6,.bool t.again)]) (λt=>[(ie,.cells false (t.O.map aL.cell))]::[(i2,.cells false [.int .i64 g.ae,.int .i64 g.ak,.int .i64 g.start,.slice a m c])]::own)
  (λt G=>t.O.length=g.ak/\(∀n,t.O.getD n false=true->yg g n)/\t.O.getD g.start false=true/\(t.again=false->∀r∈g.rules,LC t.O r)) (λt=>if t.again=true then 1+(g.ak-fg t.O) else 0) ⟨(List.replicate g.ak false).set g.start true,true⟩
  sM (ah.flat ?_) ⟨by simp,λn hn=>?_,A3 (by simp;exact hgst),λh=>(by cases h)⟩ ?_
 ·dsimp only;rw[SA,TO,Rn,RQ];exact Rc _
 ·rcases rB hn with rfl | h3
  ·exact .start
  ·exact absurd h3 iL
 intro t F2 hF2 hP;obtain⟨hl,hsnd,hst,hcl⟩:=hP;have hr2:=hr.mono hF2;refine aj ?_;refine AW.cond Z (λh=>?_) (λh=>?_)
 ·refine aj ?_;refine AW.block ?_;refine aj ?_;refine AW.range (S:=O9) (λt=>[(6,.bool t.again)]) (λt=>[(ie,.cells false (t.O.map aL.cell))]::[(i2,.cells false [.int .i64 g.ae,.int .i64 g.ak,.int .i64 g.start,.slice a m c])]::own)
   (λk u G=>u.O.length=g.ak/\(∀n,u.O.getD n false=true->yg g n)/\u.O.getD g.start false=true/\(u.again=true->fg t.O<fg u.O)/\(u.again=false->u.O=t.O/\∀r∈g.rules.take k,LC t.O r)) m ⟨t.O,false⟩
   Z Z Z Z Z Z Z Z Z zo rfl rfl (λ_=>rfl) (λ_=>rfl) sM oR ⟨hl,hsnd,hst,λh=>(by cases h),λ_=>⟨rfl,by simp⟩⟩ ?_ ?_
  ·intro k u F3 hF3 hk hP;obtain⟨hl,hsnd,hst,hT2,hC⟩:=hP;have hr3:=hr2.mono hF3;refine aj ?_;refine WT.bG hT hr3 Z Z Z Z Z Z Z Z Z zo (λr hrk b1 off ro cs lx hb hp1 hrel=>?_);obtain⟨b2,n2,d2,rfl,hr4⟩:=hrel;obtain⟨hrl,hrr,hrs⟩:=hg.right r (gM hrk);have hr4l:=hr4.len;have htk:g.rules.take (k+1)=g.rules.take k++[r]:=by rw[Rk,hrk];rfl
   obtain⟨e0,he0⟩:∃e0,u.O[r.left]?=some e0:=⟨_,gE (by rw[hl];exact hrl)⟩;have hgE:u.O.getD r.left false=e0:=by rw[BY,he0];rfl
   have hE0c:(u.O.map aL.cell)[0+r.left*1]?=some (.bool e0):=by rw[Rn,RQ,Re,he0];rfl
   refine aj ?_;refine WT.aI hT Z Z Z Z Z Z (λi6 hi6=>?_);refine aj ?_;refine WT.dL (j:=r.left) (s:=1) hT Z Z Z Z Z Z Z Z Z hrl ?_;refine WT.loadAt hT 1 Z Z Z Z Z Z me Z Z hE0c ?_;refine aj ?_;refine WT.split 32 Z (λh3=>?_) (λh3=>?_)
   ·have h3:e0=false:=by simpa using h3
    refine aj ?_;refine AW.cond Z (λ_=>?_) (λh=>(by cases h));refine AW.exit ?_;refine⟨u,sM,cy,hl,hsnd,hst,hT2,λhag=>?_⟩;obtain⟨q1,q2⟩:=hC hag;refine⟨q1,λr' hr'=>?_⟩;rw[htk] at hr';rcases Rx.1 hr' with h4 | h4
    ·exact q2 r' h4
    ·rw[Rh.1 h4];intro h5;rw[<-q1,hgE,h3] at h5;cases h5
   ·have h3:e0=true:=by simpa using h3
    refine aj ?_;refine WT.fZ (first:=[]) (args:=[.agg ⟨[.int .i64 r.left,.slice b2 n2 d2]⟩]) (capt:=[]) Tryz.func218 Z Z Z Z Z Z Z Z (uf F3 r.left _ ⟨_,_,_,rfl⟩) (λv hv=>?_)
    subst hv;refine aj ?_;refine AW.cond Z (λh=>(by cases h)) (λ_=>?_);refine aj ?_;refine AW.range (S:=O9) (λt=>[(6,.bool t.again)]) (λt=>[(i6,.cells false [.int .i64 r.left,.slice b2 n2 d2])]::[(ie,.cells false (t.O.map aL.cell))]::[(i2,.cells false [.int .i64 g.ae,.int .i64 g.ak,.int .i64 g.start,.slice a m c])]::own)
     (λi v G=>v.O.length=g.ak/\(∀n,v.O.getD n false=true->yg g n)/\v.O.getD g.start false=true/\(v.again=true->fg t.O<fg v.O)/\(v.again=false->u.again=false/\v.O=u.O/\∀s∈r.right.take i,s.term=false->u.O.getD s.n false=true)) n2 u
     Z Z Z Z Z Z Z Z Z zo rfl rfl (λ_=>rfl) (λ_=>rfl) sM oR ⟨hl,hsnd,hst,hT2,λh=>⟨h,rfl,by simp⟩⟩ ?_ ?_
    ·intro i v F4 hF4 hi hP;obtain⟨hvl,hvsnd,hvst,hvT,hvC⟩:=hP;have hr5:=hr4.mono hF4;refine aj ?_;refine WT.bG hT hr5 Z Z Z Z Z Z Z Z Z zo (λy hyi b5 off5 ro5 cs5 lx5 hb5 hp5 hrel5=>?_);obtain rfl:lx5=_:=hrel5;obtain⟨yt,yn⟩:=y;have hyo:=hrs _ (gM hyi);have hytk:r.right.take (i+1)=r.right.take i++[⟨yt,yn⟩]:=by rw[Rk,hyi];rfl
     refine aj ?_;refine WT.aI hT Z Z Z Z Z Z (λi8 hi8=>?_);refine aj ?_;refine WT.split 48 Z (λh4=>?_) (λh4=>?_)
     ·have h4:yt=false:=by simpa using h4
      subst h4;have hyn:yn<g.ak:=hyo;obtain⟨e1,he1⟩:∃e1,v.O[yn]?=some e1:=⟨_,gE (by rw[hvl];exact hyn)⟩;have hgE1:v.O.getD yn false=e1:=by rw[BY,he1];rfl
      have hE1c:(v.O.map aL.cell)[0+yn*1]?=some (.bool e1):=by rw[Rn,RQ,Re,he1];rfl
      refine aj ?_;refine WT.dL (j:=yn) (s:=1) hT Z Z Z Z Z Z Z Z Z hyn ?_;refine WT.loadAt hT 2 Z Z Z Z Z Z me Z Z hE1c ?_;refine aj ?_;refine AW.cond Z (λh5=>?_) (λh5=>?_)
      ·have h5:e1=false:=by simpa using h5
       subst h5;refine aj ?_;refine WT.dL (j:=yn) (s:=1) hT Z Z Z Z Z Z Z Z Z hyn ?_;refine WT.storeAt hT 2 0 Z Z Z Z Z Z Z Z Z Z (by simp;omega) Z Z ?_;refine aj ?_;have h1s:=nR he1;refine⟨⟨v.O.set yn true,true⟩,sM,?_,by simp[hvl],λn hn=>?_,HX hvst,λ_=>?_,λh=>(by cases h)⟩
       ·refine ah.skip _ (ah.flat ?_);dsimp only;rw[SA,Rn,RQ];exact Rc _
       ·rcases rB hn with rfl | h6
        ·exact .more (gM hrk) (hsnd _ (by rw[hgE,h3])) (gM hyi)
        ·exact hvsnd n h6
       ·show fg t.O<fg (v.O.set yn true);rw[h1s];cases hva:v.again with
        | true=>have:=hvT hva;omega
        | false=>
         obtain⟨q1,q2,_⟩:=hvC hva;rw[q2,(hC q1).1];omega
      ·have h5:e1=true:=by simpa using h5
       refine aj ?_;refine⟨v,sM,cy,hvl,hvsnd,hvst,hvT,λhag=>?_⟩;obtain⟨q1,q2,q3⟩:=hvC hag;refine⟨q1,q2,λs hs hs2=>?_⟩;rw[hytk] at hs;rcases Rx.1 hs with h6 | h6
       ·exact q3 s h6 hs2
       ·rw[Rh.1 h6,<-q2,hgE1,h5]
     ·have h4:yt=true:=by simpa using h4
      refine aj ?_;refine AW.cond Z (λh=>(by cases h)) (λ_=>?_);refine aj ?_;refine⟨v,sM,cy,hvl,hvsnd,hvst,hvT,λhag=>?_⟩;obtain⟨q1,q2,q3⟩:=hvC hag;refine⟨q1,q2,λs hs hs2=>?_⟩;rw[hytk] at hs;rcases Rx.1 hs with h6 | h6
      ·exact q3 s h6 hs2
      ·rw[Rh.1 h6,h4] at hs2;cases hs2
    ·intro v F4 hF4 hP;obtain⟨hvl,hvsnd,hvst,hvT,hvC⟩:=hP;rw[No zo] at hvC;refine⟨v,sM,cy,hvl,hvsnd,hvst,hvT,λhag=>?_⟩;obtain⟨q1,q2,q3⟩:=hvC hag;obtain⟨q4,q5⟩:=hC q1;refine⟨by rw[q2,q4],λr' hr'=>?_⟩;rw[htk] at hr';rcases Rx.1 hr' with h6 | h6
     ·exact q5 r' h6
     ·rw[Rh.1 h6];intro _ s hs hs2;rw[<-q4];exact q3 s hs hs2
  ·intro u F3 hF3 hP;obtain⟨hul,husnd,hust,hT2,hC⟩:=hP;rw[No zo] at hC;refine⟨u,?_,sM,cy,hul,husnd,hust,λhag=>?_⟩
   ·have h1:=qE u.O;have h2:=qE t.O;rw[h,If rfl];split
    ·rename_i h4;have:=hT2 h4;omega
    ·omega
   ·obtain⟨q1,q2⟩:=hC hag;rw[q1];exact q2
 ·refine AW.exit ?_;refine AW.aw 0 Z Z (λF3 hF3 hB3=>?_);refine aj ?_;have hEa:=cU (K:=aL) (R:=cd) (F:=F3) (id:=ie) (row:=t.O) (c:=if t.O.length=0 then 0 else 1) (ro:=false) rfl (λ_ _=>rfl) rfl (hB3 ie _ (by simp));rw[hl] at hEa;refine AW.ret ⟨_,[],⟨_,_,rfl,rfl,rfl⟩,bU,rfl,_,_,t.O,rfl,hEa,hl,λn=>⟨hsnd n,λhn=>?_⟩⟩
  induction hn with
  | start=>exact hst
  | more h4 _ h6 ih=>exact hcl h _ h4 ih _ h6 rfl
theorem uo(F:ar)(g:af)(hg:Valid g){a:Option Addr}{m c:Nat}(hr:bw bK F a m c g.rules) :
  Abs.Spec CC 182 [.agg ⟨ai g a m c⟩] F [] λF' v o=>o=[]/\∃a' c' O,v=.tuple ⟨[.slice a' g.ak c',.int .i64 0]⟩/\bw cd F' a' g.ak c' O/\Hx g O:=by
 unfold ai;refine Abs.Spec.fn (n:=12) Tryz.func182 rfl rfl λown=>?_;refine AW.seq (AW.du ?_);refine WT.cC Z Z Z Z Z Z (λi1 hi1=>?_);refine aj ?_;have hck:=j5 F g hg.range hr;unfold ai at hck;refine WT.bN Tryz.func85 Z Z Z Z Z Z hck (λv hv=>?_);rw[hg.u0] at hv;subst hv;refine aj ?_;refine AW.cond Z (λh=>(by simp at h)) (λ_=>?_);refine aj ?_;have hre:=yX F g hg hr;unfold ai at hre;refine WT.dH Tryz.func217 Z Z Z Z Z Z hre (λF3 v hF3 hv=>?_);obtain⟨a8,c8,O,rfl,hO,hR⟩:=hv;refine aj ?_
 exact AW.ret ⟨_,[],⟨_,_,rfl,⟨_,_,rfl,rfl,rfl⟩,rfl⟩,bU,rfl,a8,c8,O,rfl,hO,hR⟩
structure yQ(g:af)(Fo:List (List Bool)):Prop where
 Aq:nA g.ak (g.ae+1) Fo
 snd:∀n t,(Fo.getD n []).getD t false=true->As g n t
 start:(Fo.getD g.start []).getD g.ae false=true
def tC(g:af)(Fo:List (List Bool))(r:bz)(i:Nat):Prop:=∀n,r.right[i]?=some ⟨false,n⟩->(∀t,dj g (r.right.drop (i+1)) t->(Fo.getD n []).getD t false=true)/\(gG g (r.right.drop (i+1))->∀t,(Fo.getD r.left []).getD t false=true->(Fo.getD n []).getD t false=true)
theorem iT{α:Type}{l:List α}{n k:Nat}{x d:α}(hn:n<l.length):(l.set n x).getD k d=if k=n then x else l.getD k d:=by
 rw[BY,Tx];by_cases h:n=k
 ·subst h;rw[If rfl,If hn,If rfl];rfl
 ·rw[By h,By (λe=>h e.symm),BY]
theorem yQ.row{g:af}{Fo:List (List Bool)}(h:yQ g Fo){n:Nat}(hn:n<g.ak):(Fo.getD n []).length=g.ae+1:=by
 have:=gE (show n<Fo.length by rw[h.Aq.size];exact hn);rw[BY,this];exact h.Aq.row _ (TG _)
theorem yQ.or{g:af}{Fo:List (List Bool)}(h:yQ g Fo){n:Nat}(hn:n<g.ak){zs:List Bool}(hz:zs.length=g.ae+1)(hs:∀t,zs.getD t false=true->As g n t):yQ g (Fo.set n (aB (Fo.getD n []) zs)):=by
 have hl:=h.row hn;have hn2:n<Fo.length:=by rw[h.Aq.size];exact hn
 refine⟨h.Aq.setRow _ (by rw[fX zo];exact hl),λk t ht=>?_,?_⟩
 ·rw[iT hn2] at ht;split at ht
  ·rename_i e;subst e;rcases oV ht with h1 | h1
   ·exact h.snd _ _ h1
   ·exact hs t h1
  ·exact h.snd _ _ ht
 ·rw[iT hn2];split
  ·rename_i e;rw[<-e];exact iW (by rw[h.row (by rw[e];exact hn)];exact hz.symm) (.inl h.start)
  ·exact h.start
theorem yQ.grow{g:af}{Fo:List (List Bool)}(h:yQ g Fo){n:Nat}(hn:n<g.ak){zs:List Bool}(hz:zs.length=g.ae+1):dm Fo<=dm (Fo.set n (aB (Fo.getD n []) zs))/\(aB (Fo.getD n []) zs≠Fo.getD n []->dm Fo<dm (Fo.set n (aB (Fo.getD n []) zs))):=by
 have hl:=h.row hn;have hn2:n<Fo.length:=by rw[h.Aq.size];exact hn
 have h0:Fo[n]?=some (Fo.getD n []):=by rw[BY,gE hn2];rfl
 have h1:=xL (row':=aB (Fo.getD n []) zs) h0;have h2:=zS (xs:=Fo.getD n []) (ys:=zs) zo;exact⟨by have:=h2.1;omega,λhne=>by have:=h2.2 hne;omega⟩
theorem BM{Fo:List (List Bool)}{n:Nat}(hn:n<Fo.length):Fo.set n (Fo.getD n [])=Fo:=by
 apply R5;intro i;by_cases hi:i=n
 ·subst hi;rw[RA hn,BY,gE hn];rfl
 ·rw[RO zo]
theorem E5{xs zs:List Bool}(hl:xs.length=zs.length)(h:aB xs zs=xs){t:Nat}(ht:zs.getD t false=true):xs.getD t false=true:=by
 rw[<-h];exact iW hl (.inr ht)
theorem vL:∀xs:List Bool,aB xs xs=xs
 | []=>rfl
 | x::xs=>by
  have:=vL xs;unfold aB at this ⊢;rw[Ti,this,Bool.or_self]
structure LY(g:af)(Fo:List (List Bool)):Prop where
 Aq:nA g.ak (g.ae+1) Fo
 at_:∀n t,(Fo.getD n []).getD t false=true↔As g n t
theorem LY.of{g:af}{Fo:List (List Bool)}(h:yQ g Fo)(hc:∀r∈g.rules,yg g r.left->∀j,tC g Fo r j):LY g Fo:=by
 have hat:∀{r:bz} {pre post:List Sym} {m:Nat},r.right=pre++⟨false,m⟩::post->r.right[pre.length]?=some ⟨false,m⟩/\r.right.drop (pre.length+1)=post:=λ{r pre post m} e=>by
  rw[e];refine⟨by rw[Rs (AS _),SV];rfl,?_⟩;rw[show pre++⟨false,m⟩::post=(pre++[⟨false,m⟩])++post by simp,List.drop_left' (by simp)]
 refine⟨h.Aq,λn t=>⟨h.snd n t,λhf=>?_⟩⟩
 induction hf with
 | start=>exact h.start
 | CG h1 h2 h3 h4=>
  obtain⟨q1,q2⟩:=hat h3;exact(hc _ h1 h2 _ _ q1).1 _ (by rw[q2];exact h4)
 | pass h1 h2 h3 h4 _ ih=>
  obtain⟨q1,q2⟩:=hat h3;exact(hc _ h1 h2 _ _ q1).2 (by rw[q2];exact h4) _ ih
structure Nf where
 Fo:List (List Bool)
 bs:List (Nat×aD)
 again:Bool
theorem yQ.step{g:af}{t0 u v:Nf}{r:bz}{i n:Nat}(hr:r∈g.rules)(hR:yg g r.left)(hlr:r.left<g.ak)(hx:r.right[i]?=some ⟨false,n⟩)(hn:n<g.ak)(hv:yQ g v.Fo)
  (hT:v.again=true->dm t0.Fo<dm v.Fo) (hut:u.again=false->u.Fo=t0.Fo) (hC:v.again=false->u.again=false/\v.Fo=u.Fo/\∀j<i,tC g u.Fo r j)
  {row:List Bool} {emp:Bool} (hrl:row.length=g.ae) (hb:∀t,row.getD t false=true↔dj g (r.right.drop (i+1)) t) (he:emp=true↔gG g (r.right.drop (i+1)))
  {Fo1 Fo2:List (List Bool)} (h1:Fo1=v.Fo.set n (aB (v.Fo.getD n []) (gP (g.ae+1) row)))
  (h2:Fo2=if emp=true then Fo1.set n (aB (Fo1.getD n []) (Fo1.getD r.left [])) else Fo1) {ag:Bool}
  (ha1:v.again=true->ag=true) (ha2:aB (v.Fo.getD n []) (gP (g.ae+1) row)≠v.Fo.getD n []->ag=true) (ha3:emp=true->aB (Fo1.getD n []) (Fo1.getD r.left [])≠Fo1.getD n []->ag=true)
  (ha4:ag=true->v.again=true\/aB (v.Fo.getD n []) (gP (g.ae+1) row)≠v.Fo.getD n []\/(emp=true/\aB (Fo1.getD n []) (Fo1.getD r.left [])≠Fo1.getD n [])) :
  yQ g Fo2/\(ag=true->dm t0.Fo<dm Fo2)/\(ag=false->u.again=false/\Fo2=u.Fo/\∀j<i+1,tC g u.Fo r j):=by
 have hsp:r.right=r.right.take i++⟨false,n⟩::r.right.drop (i+1):=by
  have h3:=(gS hx);obtain⟨h4,h5⟩:=h3;rw[<-h5,List.getElem_cons_drop h4,Si]
 have hpl:(gP (g.ae+1) row).length=g.ae+1:=kg zo;have hI1:yQ g Fo1:=by
  rw[h1];refine hv.or hn hpl λt ht=>?_;rw[AE,hb] at ht;exact .CG hr hR hsp ht
 have hg1:=hv.grow hn hpl;rw[<-h1] at hg1;have hz2:(Fo1.getD r.left []).length=g.ae+1:=hI1.row hlr;have hI2:yQ g Fo2:=by
  rw[h2];split
  ·rename_i hem;exact hI1.or hn hz2 λt ht=>.pass hr hR hsp (he.1 hem) (hI1.snd _ _ ht)
  ·exact hI1
 have hg2:dm Fo1<=dm Fo2/\(emp=true->aB (Fo1.getD n []) (Fo1.getD r.left [])≠Fo1.getD n []->dm Fo1<dm Fo2):=by
  rw[h2];split
  ·have:=hI1.grow hn hz2;exact⟨this.1,λ_=>this.2⟩
  ·rename_i hem;exact⟨AS _,λh=>absurd h hem⟩
 have hn2:n<v.Fo.length:=by rw[hv.Aq.size];exact hn
 refine⟨hI2,λhag=>?_,λhag=>?_⟩
 ·have hle:dm t0.Fo<=dm v.Fo:=by
   cases hva:v.again with
   | true=>exact R9 (hT hva)
   | false=>
    obtain⟨q1,q2,_⟩:=hC hva;rw[q2,hut q1];exact AS _
  have e1:=hg1.1;have e2:=hg2.1;rcases ha4 hag with h3 | h3 | ⟨h3,h4⟩
  ·have:=hT h3;omega
  ·have:=hg1.2 h3;omega
  ·have:=hg2.2 h3 h4;omega
 ·have hva:v.again=false:=by
   cases h:v.again with
   | false=>rfl
   | true=>rw[ha1 h] at hag;cases hag
  obtain⟨q1,q2,q3⟩:=hC hva;have e1:aB (v.Fo.getD n []) (gP (g.ae+1) row)=v.Fo.getD n []:=Classical.byContradiction λh=>by rw[ha2 h] at hag;cases hag
  have eF1:Fo1=v.Fo:=by rw[h1,e1,BM hn2]
  have e2:emp=true->aB (v.Fo.getD n []) (v.Fo.getD r.left [])=v.Fo.getD n []:=λhem=>Classical.byContradiction λh=>by rw[ha3 hem (by rw[eF1];exact h)] at hag;cases hag
  have eF2:Fo2=v.Fo:=by
   rw[h2];split
   ·rename_i hem;rw[eF1,e2 hem,BM hn2]
   ·exact eF1
  refine⟨q1,by rw[eF2,q2],λj hj=>?_⟩;rcases Rw j i with h6 | h6
  ·exact q3 j h6
  ·obtain rfl:j=i:=by omega
   intro n' hn';rw[hx] at hn';simp only[IT,Sym.mk.injEq,true_and] at hn';subst hn';rw[<-q2];refine⟨λt ht=>E5 (by rw[hv.row hn,hpl]) e1 (by rw[AE];exact(hb t).2 ht),λhnul t ht=>E5 (by rw[hv.row hn,hv.row hlr]) (e2 (he.2 hnul)) ht⟩
theorem yQ.skip{g:af}{u v:Nf}{r:bz}{i:Nat}{y:Sym}(hx:r.right[i]?=some y)(hy:y.term=true)(hC:v.again=false->u.again=false/\v.Fo=u.Fo/\∀j<i,tC g u.Fo r j):v.again=false->u.again=false/\v.Fo=u.Fo/\∀j<i+1,tC g u.Fo r j:=λhag=>by
 obtain⟨q1,q2,q3⟩:=hC hag;refine⟨q1,q2,λj hj=>?_⟩;rcases Rw j i with h6 | h6
 ·exact q3 j h6
 ·obtain rfl:j=i:=by omega
  intro n' hn';rw[hx] at hn';obtain rfl:=AT hn';cases hy
theorem tY(G:ar){i1 i2:Nat}{xs zs:List Bool}{m c1 c2:Nat}{B:List (Nat×aD)}(hB:∀i b,(i,b)∈B->G i=some b)(hm:m=xs.length)(hz:zs.length=m)(hmm:m<=1000000)
  (h:(i1=i2/\zs=xs)\/(i2,aD.cells false (zs.map aL.cell))∈B) (hc2:c2=if zs.length=0 then 0 else 1) :
  Abs.Spec CC 134 [.slice (some ⟨i1,0,none⟩) m c1,.slice (some ⟨i2,0,none⟩) m c2] G [[(i1,.cells false (xs.map aL.cell))]] λ_ v o=>∃D',o=[D']/\D'=[(i1,.cells false ((aB xs zs).map aL.cell))]/\v=.bool (decide (aB xs zs≠xs)):=by
 rcases h with ⟨rfl,rfl⟩ | h
 ·rw[vL];refine(vc G hm hmm).mono λF' v o _ ⟨D',h1,h2,h3⟩=>⟨D',h1,h2,?_⟩;rw[h3];simp
 ·have ha:=cU (K:=aL) (R:=cd) (F:=G) (id:=i2) (row:=zs) (c:=if zs.length=0 then 0 else 1) (ro:=false) rfl (λ_ _=>rfl) rfl (hB i2 _ h);rw[hz] at ha;rw[hc2,hz];exact pM G hm ha zo hmm
theorem jN{α:Type}{p q z y:α}{bs X own:List α}(h:bs.Perm (y::X)):(p::q::((z::bs)++own)).Perm ((z::X)++(y::p::q::own)):=by
 classical
 rw[List.perm_iff_count] at h ⊢;intro a;have:=h a;simp only[List.count_cons,List.count_append] at this ⊢;omega
theorem Bt(F:ar)(g:af)(hg:Valid g){is:Nat}{a:Option Addr}{m c:Nat}{E:List Bool}{Fi:List (List Bool)}(hS:vJ F is g a m c E Fi)(hFS:C9 g E Fi) :
  Abs.Spec CC 132 [.pointer (some ⟨is,0,none⟩)] F [] λF' v o=>o=[]/\∃a' n' c' Fo,v=.slice a' n' c'/\bw (cg cd) F' a' n' c' Fo/\LY g Fo:=by
 have hr:=hS.rules;have hrlen:=hr.len;have hgr:=hg.range.rules;have hgn:=hg.range.ak;have hgt:=hg.range.ae;have hgst:g.start<g.ak:=hg.range.start;obtain⟨ie,io0,ce,co,ro,hb0,hE0,hFi0⟩:=hS.bp;refine Abs.Spec.fn (n:=118) Tryz.func132 rfl rfl λown=>?_;refine aj ?_;have hre:=uo F g hg hr;unfold ai at hre;refine WT.dH Tryz.func182 Z Z Z Z Z Z hre (λF0 v hF0 hv=>?_);obtain⟨a3,c3,O,rfl,hO,hOR⟩:=hv;have hb0:=hF0 _ _ hb0;refine aj ?_;refine AW.range (S:=FS) (λs=>[(5,.slice s.a s.m s.c)]) (λs=>s.B::s.bs::own)
  (λj s G=>dy iC G s.a s.m s.c s.B s.vs/\Abs.Rows aL s.vs s.bs (List.replicate j (List.replicate (g.ae+1) false))) g.ak ⟨none,0,0,[],[],[]⟩ Z Z Z Z Z Z Z Z Z zo rfl rfl (λ_=>rfl) (λ_=>rfl) sM (ah.flat (Rc _)) ⟨dy.gq _ _,Abs.Rows.nil⟩ ?_ ?_
 ·intro j s F1 hF1 hj hP;obtain⟨hb,hR⟩:=hP;have hb1:=hF1 _ _ hb0;have hblen:=hb.len;have hvl:=hR.len.1;rw[Sa] at hvl;refine aj ?_;refine WT.nD (l:=g.ae+1) hT Z Z Z Z Z Z Z Z Z Z Z Z kq (λir hir=>?_);rw[mj];refine WT.bd hT Z Z Z Z Z Z Z Z Z Z Z Z Z Z (λi9 hi9=>?_);refine WT.bP (R:=iC) (ys:=[.slice (some ⟨ir,0,none⟩) (g.ae+1) (if g.ae+1=0 then 0 else 1)]) hT 2 hb Z (λ_=>rfl) Z Z Z Z Z Z Z Z Z Z Z (λh0 s0=>bh hT s0 0 Z Z Z Z) (aF.single (R:=iC) ⟨rfl,rfl⟩) Z (by decide) kq (λa3 c3 B3 hB3=>?_);refine aj ?_
  refine⟨⟨a3,s.m+1,c3,B3,s.vs++[.slice (some ⟨ir,0,none⟩) (g.ae+1) (if g.ae+1=0 then 0 else 1)],s.bs++[(ir,.cells false (List.replicate (g.ae+1) (.bool false)))]⟩,sM,?_,hB3,?_⟩
  ·refine ah.skip _ (ah.flat ?_);simp only[SC,List.singleton_append];have:=tv (ir,aD.cells false (List.replicate (g.ae+1) (.bool false))) B3 s.bs own.flatten;simpa using this
  ·rw[show List.replicate (j+1) (List.replicate (g.ae+1) false)=List.replicate j (List.replicate (g.ae+1) false)++[List.replicate (g.ae+1) false] from List.replicate_succ'];have:=hR.snoc (K:=aL) (id:=ir) (row:=List.replicate (g.ae+1) false) (c:=if g.ae+1=0 then 0 else 1) (by simp);rw[Sa,TO] at this;exact this
 ·intro s F1 hF1 hP;obtain⟨hb,hR⟩:=hP;have hb1:=hF1 _ _ hb0;have hvl:=hR.len.1;rw[Sa] at hvl;have hr1:=(hr.mono hF0).mono hF1;have hblen:=hb.len;obtain⟨io,cs,hia,hic,hiB,hcells,_⟩:=hb.at_.resolve_left (λh=>by rw[h.1] at hvl;simp at hvl;omega);have hcs:=sf hcells;subst hcs;have hic:s.c=1:=hic;refine AW.le (own2:=((io,.cells false s.vs)::s.bs)::own) (ah.flat ?_) ?_
  ·rw[hiB];exact Rc _
  rw[hia,hic,show s.m=g.ak by omega];obtain⟨id,cc,hvs,hbs,hcc⟩:=hR.at g.start (List.replicate (g.ae+1) false) (by rw[Sp,If hgst]);rw[Sa] at hvs;have hvs0:s.vs[0+g.start*1]?=some (.slice (some ⟨id,0,none⟩) (g.ae+1) cc):=by rw[Rn,RQ];exact hvs
  have hR0:=hR.set g.start (List.replicate (g.ae+1) false) ((List.replicate (g.ae+1) false).set g.ae true) id (by rw[Sp,If hgst]) (by simp) hbs;refine aj ?_;refine WT.dL (j:=g.start) (s:=1) hT Z Z Z Z Z Z Z Z Z hgst ?_;refine WT.loadAt hT 0 Z Z Z Z Z Z me Z Z hvs0 ?_;refine aj ?_;refine WT.dL (j:=g.ae) (s:=1) hT Z Z Z Z Z Z Z Z Z zo ?_;refine WT.storeAt hT 0 (g.start+1) Z Z Z Z Z Z hbs Z Z Z (by simp) Z Z ?_;refine aj ?_;refine AW.block ?_;refine AW.cK (S:=Nf) (λt=>[(6,.bool t.again)]) (λt=>((io,.cells false s.vs)::t.bs)::own)
   (λt G=>Abs.Rows aL s.vs t.bs t.Fo/\yQ g t.Fo/\(t.again=false->∀r∈g.rules,yg g r.left->∀j,tC g t.Fo r j)) (λt=>if t.again=true then 1+(g.ak*(g.ae+1)-dm t.Fo) else 0)
   ⟨(List.replicate g.ak (List.replicate (g.ae+1) false)).set g.start ((List.replicate (g.ae+1) false).set g.ae true),s.bs.set g.start (id,.cells false (((List.replicate (g.ae+1) false).set g.ae true).map aL.cell)),true⟩
   sM (ah.flat ?_) ⟨hR0,?_,λh=>(by cases h)⟩ ?_
  ·dsimp only;rw[SA,Rn,RQ];exact Rc _
  ·refine⟨⟨by simp,λrow hrow=>?_⟩,λn t ht=>?_,?_⟩
   ·rcases SN hrow with h1 | h1
    ·rw[Sl h1];simp
    ·rw[h1];simp
   ·rw[iT (by simpa using hgst)] at ht;split at ht
    ·rename_i e;subst e;rcases rB ht with rfl | h3
     ·exact .start
     ·exact absurd h3 iL
    ·exfalso;rw[BY (l:=List.replicate g.ak _),Sp] at ht;split at ht
     ·exact absurd ht iL
     ·simp at ht
   ·rw[iT (by simpa using hgst),If rfl];exact A3 (by simp)
  intro t F2 hF2 hP;obtain⟨hR,hI,hC⟩:=hP;have hr2:=hr1.mono hF2;have hb2:=hF2 _ _ hb1;have hO2:=(hO.mono hF1).mono hF2;refine aj ?_;refine AW.cond Z (λh=>?_) (λh=>?_)
  ·refine aj ?_;refine AW.block ?_;refine aj ?_;refine AW.range (S:=Nf) (λt=>[(6,.bool t.again)]) (λt=>((io,.cells false s.vs)::t.bs)::own)
    (λk u G=>Abs.Rows aL s.vs u.bs u.Fo/\yQ g u.Fo/\(u.again=true->dm t.Fo<dm u.Fo)/\(u.again=false->u.Fo=t.Fo/\∀r∈g.rules.take k,yg g r.left->∀j,tC g t.Fo r j)) m ⟨t.Fo,t.bs,false⟩
    Z Z Z Z Z Z Z Z Z zo rfl rfl (λ_=>rfl) (λ_=>rfl) sM oR ⟨hR,hI,λh=>(by cases h),λ_=>⟨rfl,by simp⟩⟩ ?_ ?_
   ·intro k u F3 hF3 hk hP;obtain⟨huR,huI,huT,huC⟩:=hP;have hr3:=hr2.mono hF3;have hb3:=hF3 _ _ hb2;have hO3:=hO2.mono hF3;have hOl:=hO3.len;refine aj ?_;refine WT.bG hT hr3 Z Z Z Z Z Z Z Z Z zo (λr hrk b1 off ro1 cs lx hb1' hp1 hrel=>?_);obtain⟨b2,n2,d2,rfl,hr4⟩:=hrel;obtain⟨hrl,hrr,hrs⟩:=hg.right r (gM hrk);have hr4l:=hr4.len;have htk:g.rules.take (k+1)=g.rules.take k++[r]:=by rw[Rk,hrk];rfl
    refine aj ?_;refine WT.aI hT Z Z Z Z Z Z (λi8 hi8=>?_);refine aj ?_;refine WT.bG hT hO3 Z Z Z Z Z Z Z Z Z (by have:=hOR.len;omega) (λe0 he0 b5 off5 ro5 cs5 lx5 hb5 hp5 hrel5=>?_);obtain rfl:lx5=_:=hrel5;have hgE:O.getD r.left false=e0:=by rw[BY,he0];rfl
    refine aj ?_;refine AW.cond Z (λh3=>?_) (λh3=>?_)
    ·have h3:e0=false:=by simpa using h3
     refine AW.exit ?_;refine⟨u,sM,cy,huR,huI,huT,λhag=>?_⟩;obtain⟨q1,q2⟩:=huC hag;refine⟨q1,λr' hr'=>?_⟩;rw[htk] at hr';rcases Rx.1 hr' with h4 | h4
     ·exact q2 r' h4
     ·rw[Rh.1 h4];intro h5;rw[<-hOR.at_,hgE,h3] at h5;cases h5
    ·have h3:e0=true:=by simpa using h3
     have hRch:yg g r.left:=(hOR.at_ _).1 (by rw[hgE,h3]);refine aj ?_;refine AW.range (S:=Nf) (λt=>[(6,.bool t.again)]) (λt=>[(i8,.cells false [.int .i64 r.left,.slice b2 n2 d2])]::((io,.cells false s.vs)::t.bs)::own)
      (λi v G=>Abs.Rows aL s.vs v.bs v.Fo/\yQ g v.Fo/\(v.again=true->dm t.Fo<dm v.Fo)/\(v.again=false->u.again=false/\v.Fo=u.Fo/\∀j<i,tC g u.Fo r j)) n2 u
      Z Z Z Z Z Z Z Z Z zo rfl rfl (λ_=>rfl) (λ_=>rfl) sM oR ⟨huR,huI,huT,λh=>⟨h,rfl,λj hj=>absurd hj (Tr _)⟩⟩ ?_ ?_
     ·intro i v F4 hF4 hi hP;obtain⟨hvR,hvI,hvT,hvC⟩:=hP;have hr5:=hr4.mono hF4;have hb4:=hF4 _ _ hb3;refine aj ?_;refine WT.bG hT hr5 Z Z Z Z Z Z Z Z Z zo (λy hyi b5 off5 ro5 cs5 lx5 hb5 hp5 hrel5=>?_);obtain rfl:lx5=_:=hrel5;obtain⟨yt,yn⟩:=y;have hyo:=hrs _ (gM hyi);refine aj ?_;refine WT.aI hT Z Z Z Z Z Z (λi10 hi10=>?_);refine aj ?_;refine AW.cond Z (λh4=>?_) (λh4=>?_)
      ·have h4:yt=true:=by simpa using h4
       refine AW.exit ?_;exact⟨v,sM,cy,hvR,hvI,hvT,yQ.skip hyi h4 hvC⟩
      ·have h4:yt=false:=by simpa using h4
       subst h4;have hyn:yn<g.ak:=hyo;refine aj ?_;obtain⟨ra,rc,hrs2,hra⟩:=hr5.slice (C:=CC) (lo:=i+1) (hi:=n2) zo (AS _) hT (t:=87) Z Z Z (some (.int .i64 ((i+1:Nat):Int))) none (by simp[cZ];omega) rfl;refine WT.slice Z Z Z Z Z Z Z Z hrs2 ?_;rw[No zo] at hra;have hF34:=((((hF0.trans hF1).trans hF2).trans hF3).trans hF4);have hlst:=hFS.list (l:=r.right.drop (i+1)) (λy hy=>hrs y (S2 hy))
       refine WT.lC Tryz.func133 Z Z Z Z Z Z (wB F4 hb4 (hE0.mono hF34) (hFi0.mono hF34) hS.row zo hra zo (λy hy=>hrs y (S2 hy))) (λF5 w B5 hF5 hv=>?_);obtain⟨ir,rfl,hrl5,rfl⟩:=hv;refine WT.aw 0 Z Z (λF6 hF6 hB6=>?_);have hrow:bw cd F6 (some ⟨ir,0,none⟩) g.ae (if g.ae=0 then 0 else 1) (ofRow E Fi (List.replicate g.ae false) (r.right.drop (i+1))).1:=by
        have:=cU (K:=aL) (R:=cd) (F:=F6) (id:=ir) (row:=(ofRow E Fi (List.replicate g.ae false) (r.right.drop (i+1))).1) (c:=if (ofRow E Fi (List.replicate g.ae false) (r.right.drop (i+1))).1.length=0 then 0 else 1) (ro:=false) rfl (λ_ _=>rfl) rfl (hB6 ir _ me);rw[hrl5] at this;exact this
       generalize ofRow E Fi (List.replicate g.ae false) (r.right.drop (i+1))=fr at hlst hrow hrl5 ⊢;obtain⟨row,emp⟩:=fr;dsimp only at hlst hrow hrl5;have hnl:yn<v.Fo.length:=by rw[hvI.Aq.size];exact hyn
       have hrow0:v.Fo[yn]?=some (v.Fo.getD yn []):=by rw[BY,gE hnl];rfl
       have holdl:=hvI.row hyn;obtain⟨id1,cc1,hvs1,hbs1,hcc1⟩:=hvR.at yn _ hrow0;have hst:=λ(Fo2:List (List Bool)) (h2:Fo2=if emp=true then (v.Fo.set yn (aB (v.Fo.getD yn []) (gP (g.ae+1) row))).set yn (aB ((v.Fo.set yn (aB (v.Fo.getD yn []) (gP (g.ae+1) row))).getD yn []) ((v.Fo.set yn (aB (v.Fo.getD yn []) (gP (g.ae+1) row))).getD r.left [])) else v.Fo.set yn (aB (v.Fo.getD yn []) (gP (g.ae+1) row))) (ag:Bool)=>yQ.step (t0:=t) (u:=u) (v:=v) (gM hrk) hRch hrl hyi hyn hvI hvT (λh=>(huC h).1) hvC hrl5 hlst.1 hlst.2 rfl h2 (ag:=ag)
       generalize hold:v.Fo.getD yn []=cw at hrow0 holdl hvs1 hbs1 hst;have hpl:(gP (g.ae+1) row).length=g.ae+1:=kg zo;have hR1:=hvR.set yn cw (aB cw (gP (g.ae+1) row)) id1 hrow0 (by rw[fX zo]) hbs1;rw[holdl] at hvs1;have hvs1':s.vs[0+yn*1]?=some (.slice (some ⟨id1,0,none⟩) (g.ae+1) cc1):=by rw[Rn,RQ];exact hvs1
       refine aj ?_;refine WT.dL (j:=yn) (s:=1) hT Z Z Z Z Z Z Z Z Z hyn ?_;refine WT.loadAt hT 3 Z Z Z Z Z Z me Z Z hvs1' ?_;refine aj ?_;have hpk:=bX hbs1;have hn1:(v.Fo.set yn (aB cw (gP (g.ae+1) row))).getD yn []=aB cw (gP (g.ae+1) row):=by rw[iT hnl,If rfl]
       rw[hn1] at hst;have hnewl:(aB cw (gP (g.ae+1) row)).length=g.ae+1:=by rw[fX zo];exact holdl
       refine WT.le (own2:=((io,.cells false s.vs)::v.bs.eraseIdx yn)::[(id1,.cells false (cw.map aL.cell))]::[(i10,.cells false [.bool false,.int .i64 yn])]::[(i8,.cells false [.int .i64 r.left,.slice b2 n2 d2])]::own) (ah.flat (jN hpk)) ?_
       refine WT.oU (dh:=λD'=>((io,.cells false s.vs)::v.bs.eraseIdx yn)::D'::[(i10,.cells false [.bool false,.int .i64 yn])]::[(i8,.cells false [.int .i64 r.left,.slice b2 n2 d2])]::own) 0 1 Tryz.func134 Z Z Z Z Z Z (Rc _) (λ_=>Rc _) (λG hG hBG=>Cf G (it:=id1) (xs:=cw) (ys:=row) (m:=g.ae+1) zo (hrow.mono hG) zo zo) (λw D hw=>?_);obtain⟨rfl,rfl⟩:=hw;rw[holdl];generalize aB cw (gP (g.ae+1) row)=new1 at hst hR1 hnewl ⊢
       refine WT.le (own2:=[(i10,.cells false [.bool false,.int .i64 yn])]::[(i8,.cells false [.int .i64 r.left,.slice b2 n2 d2])]::((io,.cells false s.vs)::v.bs.set yn (id1,.cells false (new1.map aL.cell)))::own) (ah.flat (jN (gr (id1,aD.cells false (new1.map aL.cell)) hbs1)).symm) ?_;have hbl:=(gS hbs1).1;have hbs1':(v.bs.set yn (id1,aD.cells false (new1.map aL.cell)))[yn]?=some (id1,.cells false (new1.map aL.cell)):=RA hbl;generalize hbs1e:v.bs.set yn (id1,aD.cells false (new1.map aL.cell))=bs1 at hR1 hbs1' ⊢
       have hl1:r.left<(v.Fo.set yn new1).length:=by rw[T2,hvI.Aq.size];exact hrl
       have hrow1:(v.Fo.set yn new1)[yn]?=some new1:=RA hnl;have hrow2:(v.Fo.set yn new1)[r.left]?=some ((v.Fo.set yn new1).getD r.left []):=by rw[BY,gE hl1];rfl
       have hzsl:((v.Fo.set yn new1).getD r.left []).length=g.ae+1:=by
        rw[iT hnl];split
        ·exact hnewl
        ·exact hvI.row hrl
       have hzsn:r.left=yn->(v.Fo.set yn new1).getD r.left []=new1:=λe=>by rw[iT hnl,If e]
       generalize hFo1:v.Fo.set yn new1=Fo1 at hst hR1 hrow1 hrow2 hzsl hzsn ⊢;generalize Fo1.getD r.left []=zs at hst hrow2 hzsl hzsn ⊢;obtain⟨id2,cc2,hvs2,hbs2,hcc2⟩:=hR1.at r.left zs hrow2;rw[hzsl] at hvs2;have hvs2':s.vs[0+r.left*1]?=some (.slice (some ⟨id2,0,none⟩) (g.ae+1) cc2):=by rw[Rn,RQ];exact hvs2
       have hR2:=hR1.set yn new1 (aB new1 zs) id1 hrow1 (by rw[fX zo]) hbs1';have hself:(id1=id2/\zs=new1)\/(id2,aD.cells false (zs.map aL.cell))∈((io,.cells false s.vs)::bs1.eraseIdx yn):=by
        by_cases e:r.left=yn
        ·left;refine⟨?_,hzsn e⟩;rw[e,hvs1] at hvs2;simp only[IT,Value.slice.injEq,Addr.mk.injEq] at hvs2;exact hvs2.1.1
        ·right;exact I9 _ (List.mem_eraseIdx_iff_getElem?.2 ⟨r.left,e,hbs2⟩)
       refine aj ?_;refine WT.split 97 Z (λh7=>?_) (λh7=>?_)
       ·have h7:new1≠cw:=Sm h7;refine aj ?_;refine AW.cond Z (λh5=>?_) (λh5=>?_)
        ·have h5:emp=true:=h5;refine aj ?_;refine WT.dL (j:=yn) (s:=1) hT Z Z Z Z Z Z Z Z Z hyn ?_;refine WT.loadAt hT 2 Z Z Z Z Z Z me Z Z hvs1' ?_;refine aj ?_;refine WT.dL (j:=r.left) (s:=1) hT Z Z Z Z Z Z Z Z Z hrl ?_;refine WT.loadAt hT 2 Z Z Z Z Z Z me Z Z hvs2' ?_;refine WT.le (own2:=((io,.cells false s.vs)::bs1.eraseIdx yn)::[(id1,.cells false (new1.map aL.cell))]::[(i10,.cells false [.bool false,.int .i64 yn])]::[(i8,.cells false [.int .i64 r.left,.slice b2 n2 d2])]::own) (ah.flat (jN (bX hbs1'))) ?_
         refine WT.oU (dh:=λD'=>((io,.cells false s.vs)::bs1.eraseIdx yn)::D'::[(i10,.cells false [.bool false,.int .i64 yn])]::[(i8,.cells false [.int .i64 r.left,.slice b2 n2 d2])]::own) 0 1 Tryz.func134 Z Z Z Z Z Z (Rc _) (λ_=>Rc _) (λG hG hBG=>tY G (i1:=id1) (i2:=id2) (xs:=new1) (zs:=zs) (m:=g.ae+1) hBG hnewl.symm hzsl zo hself hcc2) (λw D hw=>?_);obtain⟨rfl,rfl⟩:=hw
         refine WT.le (own2:=[(i10,.cells false [.bool false,.int .i64 yn])]::[(i8,.cells false [.int .i64 r.left,.slice b2 n2 d2])]::((io,.cells false s.vs)::bs1.set yn (id1,.cells false ((aB new1 zs).map aL.cell)))::own) (ah.flat (jN (gr (id1,aD.cells false ((aB new1 zs).map aL.cell)) hbs1')).symm) ?_;refine aj ?_;refine WT.split 112 Z (λh6=>?_) (λh6=>?_)
         ·have h6:aB new1 zs≠new1:=Sm h6;refine aj ?_;exact⟨⟨Fo1.set yn (aB new1 zs),bs1.set yn (id1,.cells false ((aB new1 zs).map aL.cell)),true⟩,sM,cy,hR2,hst _ (by rw[If h5]) true (λ_=>rfl) (λ_=>rfl) (λ_ _=>rfl) (λ_=>.inr (.inr ⟨h5,h6⟩))⟩
         ·have h6:aB new1 zs=new1:=by simpa using h6
          refine aj ?_;exact⟨⟨Fo1.set yn (aB new1 zs),bs1.set yn (id1,.cells false ((aB new1 zs).map aL.cell)),true⟩,sM,cy,hR2,hst _ (by rw[If h5]) true (λ_=>rfl) (λ_=>rfl) (λ_ h=>absurd h6 h) (λ_=>.inr (.inl h7))⟩
        ·have h5:emp=false:=h5;refine aj ?_;exact⟨⟨Fo1,bs1,true⟩,sM,cy,hR1,hst _ (by rw[By (by rw[h5];simp)]) true (λ_=>rfl) (λ_=>rfl) (λh=>by rw[h5] at h;cases h) (λ_=>.inr (.inl h7))⟩
       ·have h7:new1=cw:=by simpa using h7
        refine aj ?_;refine AW.cond Z (λh5=>?_) (λh5=>?_)
        ·have h5:emp=true:=h5;refine aj ?_;refine WT.dL (j:=yn) (s:=1) hT Z Z Z Z Z Z Z Z Z hyn ?_;refine WT.loadAt hT 2 Z Z Z Z Z Z me Z Z hvs1' ?_;refine aj ?_;refine WT.dL (j:=r.left) (s:=1) hT Z Z Z Z Z Z Z Z Z hrl ?_;refine WT.loadAt hT 2 Z Z Z Z Z Z me Z Z hvs2' ?_;refine WT.le (own2:=((io,.cells false s.vs)::bs1.eraseIdx yn)::[(id1,.cells false (new1.map aL.cell))]::[(i10,.cells false [.bool false,.int .i64 yn])]::[(i8,.cells false [.int .i64 r.left,.slice b2 n2 d2])]::own) (ah.flat (jN (bX hbs1'))) ?_
         refine WT.oU (dh:=λD'=>((io,.cells false s.vs)::bs1.eraseIdx yn)::D'::[(i10,.cells false [.bool false,.int .i64 yn])]::[(i8,.cells false [.int .i64 r.left,.slice b2 n2 d2])]::own) 0 1 Tryz.func134 Z Z Z Z Z Z (Rc _) (λ_=>Rc _) (λG hG hBG=>tY G (i1:=id1) (i2:=id2) (xs:=new1) (zs:=zs) (m:=g.ae+1) hBG hnewl.symm hzsl zo hself hcc2) (λw D hw=>?_);obtain⟨rfl,rfl⟩:=hw
         refine WT.le (own2:=[(i10,.cells false [.bool false,.int .i64 yn])]::[(i8,.cells false [.int .i64 r.left,.slice b2 n2 d2])]::((io,.cells false s.vs)::bs1.set yn (id1,.cells false ((aB new1 zs).map aL.cell)))::own) (ah.flat (jN (gr (id1,aD.cells false ((aB new1 zs).map aL.cell)) hbs1')).symm) ?_;refine aj ?_;refine WT.split 112 Z (λh6=>?_) (λh6=>?_)
         ·have h6:aB new1 zs≠new1:=Sm h6;refine aj ?_;exact⟨⟨Fo1.set yn (aB new1 zs),bs1.set yn (id1,.cells false ((aB new1 zs).map aL.cell)),true⟩,sM,cy,hR2,hst _ (by rw[If h5]) true (λ_=>rfl) (λ_=>rfl) (λ_ _=>rfl) (λ_=>.inr (.inr ⟨h5,h6⟩))⟩
         ·have h6:aB new1 zs=new1:=by simpa using h6
          refine aj ?_;exact⟨⟨Fo1.set yn (aB new1 zs),bs1.set yn (id1,.cells false ((aB new1 zs).map aL.cell)),v.again⟩,sM,cy,hR2,hst _ (by rw[If h5]) v.again (λh=>h) (λh=>absurd h7 h) (λ_ h=>absurd h6 h) (λh=>.inl h)⟩
        ·have h5:emp=false:=h5;refine aj ?_;exact⟨⟨Fo1,bs1,v.again⟩,sM,cy,hR1,hst _ (by rw[By (by rw[h5];simp)]) v.again (λh=>h) (λh=>absurd h7 h) (λh=>by rw[h5] at h;cases h) (λh=>.inl h)⟩
     ·intro v F4 hF4 hP;obtain⟨hvR,hvI,hvT,hvC⟩:=hP;refine⟨v,sM,cy,hvR,hvI,hvT,λhag=>?_⟩;obtain⟨q1,q2,q3⟩:=hvC hag;obtain⟨q4,q5⟩:=huC q1;refine⟨by rw[q2,q4],λr' hr'=>?_⟩;rw[htk] at hr';rcases Rx.1 hr' with h6 | h6
      ·exact q5 r' h6
      ·rw[Rh.1 h6];intro _ j;rw[<-q4];rcases Rw j n2 with h7 | h7
       ·exact q3 j h7
       ·intro n' hn';rw[Ry zo] at hn';cases hn'
   ·intro u F3 hF3 hP;obtain⟨huR,huI,huT,huC⟩:=hP;rw[No zo] at huC;refine⟨u,?_,sM,cy,huR,huI,λhag=>?_⟩
    ·have h1:=AO huI.Aq;rw[h,If rfl];split
     ·rename_i h4;have:=huT h4;omega
     ·omega
    ·obtain⟨q1,q2⟩:=huC hag;rw[q1];exact q2
  ·refine AW.exit ?_;refine AW.aw 0 Z Z (λF3 hF3 hB3=>?_);refine aj ?_;have hFa:=Abs.Rows.arr (K:=aL) (R:=cd) rfl (λ_ _=>rfl) (F:=F3) (o:=io) (c:=if t.Fo.length=0 then 0 else 1) (ro:=false) hR (λi b hm=>hB3 i b (by simp[hm])) rfl (hB3 io _ (by simp));rw[hI.Aq.size,By zo] at hFa;exact AW.ret ⟨_,[],⟨_,_,rfl,rfl,rfl⟩,bU,rfl,_,_,_,t.Fo,rfl,hFa,.of hI (hC h)⟩
theorem Cm(g:af)(I:List (List Lr))(P:Lr->Nat->Prop):kJ g I (λ_=>P)=I.map λst=>st.map λx=>⟨x,bC (P x) (g.ae+1)⟩:=by
 apply R5;intro i;rw[ni,Re]
theorem Bm{P:Nat->Prop}{n:Nat}(h:P n):bC P (n+1)=bC P n+2 ^ n:=by
 show _+(if _ then 2 ^ n else 0)=_;rw[If (@decide_eq_true _ (Classical.propDecidable _) h)]
theorem EU{P:Nat->Prop}{n:Nat}(h:¬P n):bC P (n+1)=bC P n:=by
 show _+(if _ then 2 ^ n else 0)=_;rw[By (λh2=>h (@of_decide_eq_true _ (Classical.propDecidable _) h2)),SJ]
theorem IK(n:Nat):bC (λt=>t=n) (n+1)=2 ^ n:=by
 rw[Bm (P:=λt=>t=n) (n:=n) rfl];have:∀k≤n,bC (λt=>t=n) k=0:=by
  intro k
  induction k with
  | zero=>intro _;rfl
  | succ k ih=>
   intro hk;rw[EU (P:=λt=>t=n) (n:=k) zo];exact ih zo
 rw[this n (AS _),Rn]
theorem wD{P Q:Nat->Prop}{n:Nat}(h:∀t,P t↔Q t):bC P n=bC Q n:=by
 have:P=Q:=funext λt=>propext (h t);rw[this]
structure P2 where
 a:Option Addr
 m:Nat
 c:Nat
 B:List (Nat×aD)
theorem HR(F:ar)(g:af)(hg:Valid g){im is:Nat}{a:Option Addr}{m c:Nat}{E:List Bool}{Fi:List (List Bool)}{eb ee:cQ Lr}(hM:vW F im g a m c E Fi is eb ee)
  {I:List (List Lr)} {a1 a2:Option Addr} {n1 c1 n2 c2:Nat} (hI:bw (cg dM) F a1 n1 c1 I) (hn1:n1<=1000) (hok:∀st∈I,st.length<=1000/\∀x∈st,jK g x) :
  Abs.Spec CC 101 [.pointer (some ⟨im,0,none⟩),.agg ⟨[.slice a1 n1 c1,.slice a2 n2 c2]⟩] F [] λF' v o=>o=[]/\∃a' n' c',v=.slice a' n' c'/\bw (cg o9) F' a' n' c' (kJ g I λ_=>nG g):=by
 rw[Cm];generalize hf:(λx:Lr=>(⟨x,bC (nG g x) (g.ae+1)⟩:bL))=f;have hgr:=hg.range.rules;have hgt:=hg.range.ae;have hgn:=hg.range.ak;have hp:=sT hg.range.ae.2;have hr:=hM.jo.rules;have hrl:=hr.len;have hIl:=hI.len;obtain⟨ib,ie,ro,h1,h2,h3⟩:=hM.bp;refine Abs.Spec.fn (n:=89) Tryz.func101 rfl rfl λown=>?_;refine AW.seq (AW.du ?_);refine WT.cC Z Z Z Z Z Z (λi3 hi3=>?_);refine aj ?_;refine WT.dH Tryz.func132 Z Z Z Z Z Z (Bt F g hg hM.jo hM.Ol) (λF0 v hF0 hv=>?_);obtain⟨a5,n5,c5,Fo,rfl,hFo,hFF⟩:=hv;have h10:=hF0 _ _ h1
 have hr0:=hr.mono hF0;have hI0:=hI.mono hF0;have hFol:=hFo.len;have hFs:=hFF.Aq.size;refine aj ?_;refine AW.range (S:=P2) (λs=>[(6,.slice s.a s.m s.c)]) (λs=>s.B::[(i3,.cells false [.slice a1 n1 c1,.slice a2 n2 c2])]::own) (λj s G=>dy (cg o9) G s.a s.m s.c s.B ((I.take j).map λst=>st.map f)) n1 ⟨none,0,0,[]⟩
  Z Z Z Z Z Z Z Z Z zo rfl rfl (λ_=>rfl) (λ_=>rfl) sM (ah.flat (Rc _)) (dy.gq _ _) ?_ ?_
 ·intro j s F1 hF1 hj hb;have hI1:=hI0.mono hF1;have hbl:=hb.len;rw[Rq,RK] at hbl;refine aj ?_;refine WT.bG hT hI1 Z Z Z Z Z Z Z Z Z zo (λst hsj b1 off1 ro1 cs1 lx1 hb1 hp1 hrel1=>?_);obtain⟨sa,sn,sc,rfl,hst⟩:=hrel1;have hsl:=hst.len;obtain⟨hs1,hs2⟩:=hok st (gM hsj);have htk:I.take (j+1)=I.take j++[st]:=by rw[Rk,hsj];rfl
  refine aj ?_;refine AW.range (S:=P2) (λs=>[(9,.slice s.a s.m s.c)]) (λu=>u.B::s.B::[(i3,.cells false [.slice a1 n1 c1,.slice a2 n2 c2])]::own) (λk u G=>dy o9 G u.a u.m u.c u.B ((st.take k).map f)) sn ⟨none,0,0,[]⟩
   Z Z Z Z Z Z Z Z Z zo rfl rfl (λ_=>rfl) (λ_=>rfl) sM (ah.flat (Rc _)) (dy.gq _ _) ?_ ?_
  ·intro k u F2 hF2 hk hub;have hst2:=hst.mono hF2;have h12:=hF2 _ _ (hF1 _ _ h10);have hr2:=(hr0.mono hF1).mono hF2;have hFo2:=(hFo.mono hF1).mono hF2;have hubl:=hub.len;rw[Rq,RK] at hubl;refine aj ?_;refine WT.bG hT hst2 Z Z Z Z Z Z Z Z Z zo (λx hxk b5 off5 ro5 cs5 lx5 hb5 hp5 hrel5=>?_);obtain rfl:lx5=_:=hrel5;obtain⟨hx1,hx2⟩:=hs2 x (gM hxk);have htk2:st.take (k+1)=st.take k++[x]:=by rw[Rk,hxk];rfl
   have hp2:2 ^ g.ae<=256:=AI (Rz (by decide) hgt.2) (by decide);refine aj ?_;refine WT.aI hT Z Z Z Z Z Z (λi11 hi11=>?_);refine aj ?_;refine AW.draw (ps:=[(0,8),(5,8),(6,8)]) Z Z ?_;refine aj ?_;refine WT.AL (x:=1) (y:=g.ae) Z Z Z Z Z Z zo zo ?_;refine aj ?_;refine WT.aI hT Z Z Z Z Z Z (λi12 hi12=>?_);refine aj ?_;refine⟨oF,?_⟩;refine aj ?_;refine AW.cond Z (λh=>?_) (λh=>?_)
   ·have h:x.aA<g.rules.length:=by simp at h;omega
    have hrx:=gE h;obtain⟨r,hrx⟩:∃r,g.rules[x.aA]?=some r:=⟨_,hrx⟩;have hrl2:=(hg.right r (gM hrx)).1;have hfx:f x=⟨x,bC (As g r.left) (g.ae+1)⟩:=by
     rw[<-hf];dsimp only;congr 1;refine wD λt=>?_;unfold nG;rw[If h,lA hrx]
    refine aj ?_;refine WT.bG hT hr2 Z Z Z Z Z Z Z Z Z zo (λr2 hr2x b6 off6 ro6 cs6 lx6 hb6 hp6 hrel6=>?_);rw[hrx] at hr2x;obtain rfl:=AT hr2x;obtain⟨ra,rn,rc,rfl,hra⟩:=hrel6;refine aj ?_;refine WT.bG hT hFo2 Z Z Z Z Z Z Z Z Z zo (λrow hrow b7 off7 ro7 cs7 lx7 hb7 hp7 hrel7=>?_);obtain⟨wa,wn,wc,rfl,hwa⟩:=hrel7;have hrowl:=hFF.Aq.row row (gM hrow);have hwl:=hwa.len;have hrowb:∀t,row.getD t false=true↔As g r.left t:=λt=>by
     rw[<-hFF.at_ r.left t,BY (l:=Fo),hrow];rfl
    refine aj ?_;refine AW.range (S:=Nat) (λ_=>[]) (λS=>[(i12,.cells false [.int .i64 x.aA,.int .i64 x.dot,.int .u32 S])]::[(i11,.cells false [.int .i64 x.aA,.int .i64 x.dot])]::u.B::s.B::[(i3,.cells false [.slice a1 n1 c1,.slice a2 n2 c2])]::own) (λt S G=>S=bC (As g r.left) t) wn 0
     Z Z Z Z Z Z Z Z Z zo rfl rfl (λ_=>rfl) (λ_=>rfl) sM oR rfl ?_ ?_
    ·intro t S F3 hF3 ht hS;have hwa3:=hwa.mono hF3;have hlt:=jR (As g r.left) t;rw[<-hS] at hlt;have hpt:2 ^ t<=256:=AI (Rz (by decide) (show t<=8 by omega)) (by decide);refine aj ?_;refine WT.bG hT hwa3 Z Z Z Z Z Z Z Z Z zo (λok hok b8 off8 ro8 cs8 lx8 hb8 hp8 hrel8=>?_);obtain rfl:lx8=_:=hrel8;have hbit:ok=true↔As g r.left t:=by
      rw[<-hrowb t,BY,hok];rfl
     refine aj ?_;refine AW.cond Z (λh=>?_) (λh=>?_)
     ·have hnew:=Bm (P:=As g r.left) (n:=t) (hbit.1 h);refine aj ?_;refine WT.AL (x:=1) (y:=t) Z Z Z Z Z Z zo zo ?_;refine WT.DI (x:=S) (y:=1*2 ^ t) Z Z Z Z Z Z zo zo ?_;refine aj ?_;refine⟨S ||| 1*2 ^ t,sM,cy,?_⟩
      show S ||| 1*2 ^ t=bC (As g r.left) (t+1)
      rw[vA hlt,hnew,hS]
     ·have hnew:=EU (P:=As g r.left) (n:=t) (λh2=>by rw[hbit.2 h2] at h;cases h);refine aj ?_;exact⟨S,sM,cy,by show S=bC (As g r.left) (t+1);rw[hnew];exact hS⟩
    ·intro S F3 hF3 hS;have hub3:=hub.mono hF3;rw[show wn=g.ae+1 by omega] at hS;have hxS:f x=⟨x,S⟩:=by rw[hfx,hS]
     refine aj ?_;refine WT.bd hT Z Z Z Z Z Z Z Z Z Z Z Z Z Z (λi33 hi33=>?_);refine WT.bP (R:=o9) (ys:=[⟨x,S⟩]) hT 3 hub3 Z (λ_=>rfl) Z Z Z Z Z Z Z Z Z Z Z (λh0 s0=>bh hT s0 0 Z Z Z Z) (aF.single (R:=o9) (x:=⟨x,S⟩) rfl) Z (by decide) kq (λa3 c3 B3 hB3=>?_);refine aj ?_;refine⟨⟨a3,u.m+1,c3,B3⟩,sM,cy,?_⟩;dsimp only;rw[htk2,RV,Na,Sg,hxS];exact hB3
   ·have h:x.aA=g.rules.length:=by simp at h;omega
    have hfx:f x=⟨x,1*2 ^ g.ae⟩:=by
     rw[<-hf];dsimp only;congr 1;rw[SW,<-IK];refine wD λt=>?_;unfold nG;rw[By zo]
    refine aj ?_;refine WT.bd hT Z Z Z Z Z Z Z Z Z Z Z Z Z Z (λi33 hi33=>?_);refine WT.bP (R:=o9) (ys:=[⟨x,1*2 ^ g.ae⟩]) hT 3 hub Z (λ_=>rfl) Z Z Z Z Z Z Z Z Z Z Z (λh0 s0=>bh hT s0 0 Z Z Z Z) (aF.single (R:=o9) (x:=⟨x,1*2 ^ g.ae⟩) rfl) Z (by decide) kq (λa3 c3 B3 hB3=>?_);refine aj ?_;refine⟨⟨a3,u.m+1,c3,B3⟩,sM,cy,?_⟩;dsimp only;rw[htk2,RV,Na,Sg,hfx];exact hB3
  ·intro u F2 hF2 hub;rw[No zo] at hub;have hb2:=hb.mono hF2;refine AW.aw 0 Z Z (λF3 hF3 hB3=>?_);have hrow:=hub.frozen hF3 hB3;have hb3:=hb2.mono hF3;refine aj ?_;refine WT.bd hT Z Z Z Z Z Z Z Z Z Z Z Z Z Z (λi89 hi89=>?_);refine WT.bP (R:=cg o9) (ys:=[st.map f]) hT 2 hb3 Z (λ_=>rfl) Z Z Z Z Z Z Z Z Z Z Z (λh0 s0=>bh hT s0 0 Z Z Z Z) (aF.single (R:=cg o9) (x:=st.map f) ⟨_,_,_,rfl,hrow⟩) Z (by decide) kq (λa3 c3 B3 hB3'=>?_);refine aj ?_;refine⟨⟨a3,s.m+1,c3,B3⟩,sM,cy,?_⟩;dsimp only;rw[htk,RV];exact hB3'
 ·intro s F1 hF1 hb;rw[No zo] at hb;refine AW.aw 0 Z Z (λF2 hF2 hB2=>?_);refine aj ?_;exact AW.ret ⟨_,[],⟨_,_,rfl,rfl,rfl⟩,bU,rfl,_,_,_,rfl,hb.frozen hF2 hB2⟩
section
variable {g:af}{I:List (List Lr)}{rows:List (List Int)}{L:List (List bL)}{W:List Nat}
structure JI(g:af)(I:List (List Lr))(rows:List (List Int))(i k:Nat)(L:List (List bL))(W:List Nat):Prop where
 la:OK g I rows L
 st:Started g L
 Qb:∀s∈W,s<I.length/\¬AQ L s
 QK:∀s,s≠i->s∈W\/AQ L s\/∀y,Mt g rows L s y
 cur:i∈W\/∀k'<k,∀y,(cu g)[k']?=some y->Mt g rows L i y
 ne:¬AQ L i
structure KI(g:af)(I:List (List Lr))(rows:List (List Int))(L:List (List bL))(W:List Nat):Prop where
 la:OK g I rows L
 st:Started g L
 Qb:∀s∈W,s<I.length/\¬AQ L s
 all:∀s,s∈W\/AQ L s\/∀y,Mt g rows L s y
theorem JI.skip{i k:Nat}{y:Sym}(h:JI g I rows i k L W)(hy:(cu g)[k]?=some y)(hgo:jm g rows i y=none):JI g I rows i (k+1) L W:=
 ⟨h.la,h.st,h.Qb,h.QK,h.cur.imp id λhc k' hk' y' hy'=>by
   rcases Rw k' k with h1 | h1
   ·exact hc k' h1 y' hy'
   ·obtain rfl:k'=k:=by omega
    rw[hy] at hy';obtain rfl:=AT hy';intro s' st hg2;exact absurd hg2 (by rw[hgo];simp),h.ne⟩
end
end Go.Proofs.D