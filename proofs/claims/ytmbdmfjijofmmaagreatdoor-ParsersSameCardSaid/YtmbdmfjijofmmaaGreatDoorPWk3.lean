/-
  Walks: what functions of the program do, over the abstract machine.
-/
import Derived.Test.YtmbdmfjijofmmaaGreatDoorPWk2
set_option linter.unusedVariables false
set_option maxRecDepth 20000
set_option maxHeartbeats 0
open Go Go.Abs Go.Proofs Go.Proofs.D
set_option linter.unusedVariables false
set_option maxRecDepth 20000
set_option maxHeartbeats 0
open Go Go.Abs Go.Proofs Go.Proofs.D
namespace Go.Proofs.D
def fI(g:ai)(st:List bQ)(row:List Int)(t:Nat):List (Nat×Nat):=
 (if t<g.ae then (match row[t]? with | some j=>if 0<=j then [(1,j.toNat)] else [] | none=>[]) else [])++
 st.filterMap λlk=>if aQ g lk.item=none/\lk.set.testBit t=true then some (if lk.item.az<g.rules.length then (2,lk.item.az) else (3,0)) else none
structure RG where
 act:List (List (Nat×Nat))
 go:List (List Int)
 Q4:List (Nat×Nat×List (Nat×Nat))
def pz(g:ai)(S:List (List bQ))(rows:List (List Int)):List (List (List (Nat×Nat))):=(List.range S.length).map λs=>(List.range (g.ae+1)).map λt=>fI g (S.getD s []) (rows.getD s []) t
noncomputable def cZ(g:ai)(method:Nat):Option (List (List bQ)×List (List Int)):=
 if method=3 then JL g else (kI g).map λa=>(kP g a.1 (if method=1 then λ_=>nP g else sI g a.1 a.2),a.2)
theorem pY{g:ai}(hg:Valid g){method:Nat}{S:List (List bQ)}{rows:List (List Int)}(h:cZ g method=some (S,rows)):jy g (S.map aP) rows/\qx g (nj (S.map aP)) (rB S) (jP g rows):=by
 unfold cZ at h;split at h
 ·exact⟨(rF h).1,Nq hg h⟩
 ·cases hA:kI g with
  | none=>rw[hA] at h;cases h
  | some a=>
   obtain⟨I,rows0⟩:=a;rw[hA] at h;have e:=BY h;simp only[Sb] at e;obtain⟨rfl,rfl⟩:=e;rw[nE];refine⟨(kz hA).1,?_⟩;split
   ·exact Nz hg hA
   ·exact K7 hg hA
def GJ:Nat×Nat->Act
 | (1,j)=>.shift j
 | (2,k)=>.red k
 | (3,_)=>.acc
 | _=>.no
theorem getD_some{α:Type}{l:List α}{i:Nat}{a d:α}(h:l[i]?=some a):l.getD i d=a:=by rw[No,h];rfl
theorem sJ{g:ai}{S:List (List bQ)}{rows:List (List Int)}(hA:jy g (S.map aP) rows){s t:Nat}(hs:s<S.length)(ht:t<=g.ae)(p:Nat×Nat) :
  p∈fI g (S.getD s []) (rows.getD s []) t↔(GJ p≠.no/\(p.1=3->p.2=0))/\y3 g (nj (S.map aP)) (rB S) (jP g rows) s t (GJ p):=by
 have hS:=gE hs;generalize S[s]=st at hS;have hSI:(S.map aP)[s]?=some (aP st):=ox hS;obtain⟨row,hrow⟩:=hA.rowAt hSI;rw[getD_some hS,getD_some hrow];unfold fI;rw[R5,Uk];have hgo:∀j,t<g.ae->(jP g rows s ⟨true,t⟩=some j↔row[t]?=some (j:Int)):=λj htt=>by
  unfold jP;rw[By (lM.2 (show ck g.ae g.au ⟨true,t⟩ from htt)),hrow];dsimp only;rw[show EU g ⟨true,t⟩=t from rfl];cases hx:row[t]? with
  | none=>simp
  | some z=>
   dsimp only;split
   ·rename_i hz;constructor
    ·intro e;have:=BY e;congr 1;omega
    ·intro e;have:=BY e;congr 1;omega
   ·rename_i hz;constructor
    ·intro e;cases e
    ·intro e;have:=BY e;omega
 constructor
 ·rintro(h | ⟨⟨z,m⟩,hz,h⟩)
  ·split at h
   ·rename_i htt;split at h
    ·rename_i j hj;split at h
     ·rename_i hj0;rw[RK.1 h];refine⟨⟨Act.noConfusion,λe=>by cases e⟩,.shift htt ((hgo _ htt).2 (by rw[hj];congr 1;omega))⟩
     ·cases h
    ·cases h
   ·cases h
  ·dsimp only at h;split at h
   ·rename_i hc;obtain⟨hc1,hc2⟩:=hc;have hzI:z∈aP st:=RI.2 ⟨_,hz,rfl⟩;have hok:=hA.ok s _ hSI z hzI;have hit:nj (S.map aP) s z:=⟨_,hSI,hzI⟩;have hla:rB S s z t:=⟨st,m,hS,hz,hc2⟩;rw[bV,TR] at hc1;have hzd:z.dot=(bg g z.az).length:=Nat.le_antisymm hok.2 hc1;obtain⟨Z,zd⟩:=z;dsimp only at hzd;split at h
    ·rename_i hlt;obtain rfl:=BY h;have hlt:Z<g.rules.length:=hlt;have hr:=gE hlt;refine⟨⟨Act.noConfusion,λe=>by cases e⟩,?_⟩;rw[cD hr] at hzd;subst hzd;exact .red hr hit hla
    ·rename_i hlt;obtain rfl:=BY h;have hzr:Z=g.rules.length:=by
      have:=hok.1;dsimp only at this hlt;omega
     subst hzr;rw[iA] at hzd;have hzd:zd=1:=hzd;subst hzd;exact⟨⟨Act.noConfusion,λ_=>rfl⟩,.acc hit hla⟩
   ·cases h
 ·rintro⟨⟨hne,h3⟩,h⟩;obtain⟨a,b⟩:=p;generalize hd:GJ (a,b)=q at h hne;cases h with
  | @shift s' htt hgo'=>
   left;rw[By htt];rw[hgo _ htt] at hgo';rw[hgo'];dsimp only;rw[By zo];unfold GJ at hd;split at hd<;>simp_all
  | @red k r hr hit hla=>
   right;obtain⟨st2,m,g1,g2,g3⟩:=hla;rw[hS] at g1;obtain rfl:=BY g1;have hk:=(gS hr).1;refine⟨_,g2,?_⟩;dsimp only;rw[By ⟨by rw[bV];show (bg g k)[r.right.length]?=none;rw[cD hr];exact R3 (AS _),g3⟩,By hk];unfold GJ at hd;split at hd<;>simp_all
  | acc hit hla=>
   right;obtain⟨st2,m,g1,g2,g3⟩:=hla;rw[hS] at g1;obtain rfl:=BY g1;refine⟨_,g2,?_⟩;dsimp only;rw[By ⟨by rw[bV];show (bg g g.rules.length)[1]?=none;rw[iA];rfl,g3⟩,AT (Tr _)];unfold GJ at hd;split at hd<;>simp_all
def fg(l:List UInt8):ByteArray:=⟨l.toArray⟩
theorem HE{a b:List UInt8}(h:fg a=fg b):a=b:=by
 have:=congrArg (λx:ByteArray=>x.data.toList) h;exact this
theorem lu(a b:List UInt8):fg a++fg b=fg (a++b):=by
 apply ByteArray.ext;rw[ByteArray.data_append];unfold fg;simp
theorem jV(a:List UInt8):(fg a).size=a.length:=by unfold fg ByteArray.size;simp
def uL(x:UInt8):Prop:=48<=x.toNat/\x.toNat<=57
def fR(n:Nat):List UInt8:=if n<10 then [UInt8.ofNat (48+n)] else [UInt8.ofNat (48+n / 10),UInt8.ofNat (48+n % 10)]
theorem oV{n:Nat}(h:n<100):∀x∈fR n,uL x:=by
 intro x hx;unfold fR at hx;unfold uL;split at hx
 ·rw[RK.1 hx,UInt8.toNat_ofNat'];omega
 ·rcases R0.1 hx with rfl | hx
  ·rw[UInt8.toNat_ofNat'];omega
  ·rw[RK.1 hx,UInt8.toNat_ofNat'];omega
theorem EO{a b:Nat}(ha:a<256)(hb:b<256)(h:UInt8.ofNat a=UInt8.ofNat b):a=b:=by
 have:=congrArg UInt8.toNat h;rw[UInt8.toNat_ofNat',UInt8.toNat_ofNat'] at this;omega
theorem y0{n m:Nat}(hn:n<100)(hm:m<100)(h:fR n=fR m):n=m:=by
 unfold fR at h;split at h<;>split at h
 ·have:=EO zo zo (Tn h);omega
 ·exact absurd (congrArg List.length h) (by simp)
 ·exact absurd (congrArg List.length h) (by simp)
 ·have h1:=EO zo zo (Tn h);have h2:=EO zo zo (Tn (UT h));omega
theorem tO:∀{a b r s:List UInt8} {c d:UInt8},(∀x∈a,uL x)->(∀x∈b,uL x)->¬uL c->¬uL d->a++c::r=b++d::s->a=b/\c=d/\r=s
 | [],[],r,s,c,d,_,_,_,_,h=>by
  exact⟨rfl,Tn h,UT h⟩
 | [],y::b,r,s,c,d,_,hb,hc,_,h=>by
  have:=Tn h;exact absurd (this▸hb y me) hc
 | x::a,[],r,s,c,d,ha,_,_,hd,h=>by
  have:=Tn h;exact absurd (this▸ha x me) hd
 | x::a,y::b,r,s,c,d,ha,hb,hc,hd,h=>by
  have h1:=Tn h;have h2:=UT h;obtain⟨h3,h4,h5⟩:=tO (λz hz=>ha z (If _ hz)) (λz hz=>hb z (If _ hz)) hc hd h2;exact⟨by rw[h1,h3],h4,h5⟩
theorem zG{c:UInt8}(h:c=46\/c=32\/c=59):¬uL c:=by
 rcases h with rfl | rfl | rfl<;>(unfold uL;decide)
def rj(x:Lr):List UInt8:=fR x.az++46::fR x.dot
def dK{σ:Type}(key:σ->List UInt8):List σ->List UInt8
 | []=>[]
 | x::l=>key x++59::dK key l
theorem pX{σ:Type}(key:σ->List UInt8)(x:σ):∀l:List σ,dK key (l++[x])=dK key l++(key x++[59])
 | []=>by simp[dK]
 | y::l=>by simp[dK,pX key x l]
theorem yY{σ:Type}{key:σ->List UInt8}{P:σ->Prop}(h:∀x y r s,P x->P y->key x++59::r=key y++59::s->x=y/\r=s):∀{l m:List σ},(∀x∈l,P x)->(∀x∈m,P x)->dK key l=dK key m->l=m
 | [],[],_,_,_=>rfl
 | [],y::m,_,_,e=>by exact absurd (congrArg List.length e) (by simp[dK])
 | x::l,[],_,_,e=>by exact absurd (congrArg List.length e) (by simp[dK])
 | x::l,y::m,hl,hm,e=>by
  obtain⟨h1,h2⟩:=h x y _ _ (hl x me) (hm y me) e;rw[h1,yY h (λz hz=>hl z (If _ hz)) (λz hz=>hm z (If _ hz)) h2]
theorem Ge(x y:Lr)(c:UInt8)(r s:List UInt8)(hc:c=46\/c=32\/c=59)(hx:x.az<100/\x.dot<100)(hy:y.az<100/\y.dot<100)(h:rj x++c::r=rj y++c::s):x=y/\r=s:=by
 unfold rj at h;rw[SL,SL] at h;have h:fR x.az++46::(fR x.dot++c::r)=fR y.az++46::(fR y.dot++c::s):=h;obtain⟨h1,_,h2⟩:=tO (oV hx.1) (oV hy.1) (zG (.inl rfl)) (zG (.inl rfl)) h;obtain⟨h3,_,h4⟩:=tO (oV hx.2) (oV hy.2) (zG hc) (zG hc) h2;have e1:=y0 hx.1 hy.1 h1;have e2:=y0 hx.2 hy.2 h3;obtain⟨a,b⟩:=x;obtain⟨a',b'⟩:=y;simp only at e1 e2;subst e1 e2;exact⟨rfl,h4⟩
theorem GR{l m:List Lr}(hl:∀x∈l,x.az<100/\x.dot<100)(hm:∀x∈m,x.az<100/\x.dot<100)(h:dK rj l=dK rj m):l=m:=
 yY (P:=λx:Lr=>x.az<100/\x.dot<100) (λx y r s hx hy e=>Ge x y 59 r s (.inr (.inr rfl)) hx hy e) hl hm h
theorem bytes_beq(x y:ByteArray):(x==y)=true↔x=y:=by
 constructor
 ·intro h;obtain⟨x⟩:=x;obtain⟨y⟩:=y;have:(x==y)=true:=h;congr 1;exact eq_of_beq this
 ·rintro rfl;obtain⟨x⟩:=x;show (x==x)=true;exact beq_self_eq_true x
theorem Fz:CC.gZ 9=some .string:=kj hT (r:=⟨9,.string,1,16,.string ByteArray.empty⟩) rfl rfl
def xx:oF CC 9 (List UInt8) where
 key:=λl=>.string (fg l)
 ok:=λl=>by
  unfold fm;simp only[Fz];rfl
 eq:=λa b=>by
  have h:uA CC 8 9 (.string (fg a)) (.string (fg b))=some (fg a==fg b):=by
   unfold uA;simp only[Fz];rfl
  by_cases e:a=b
  ·subst e;exact .inl ⟨rfl,by rw[h,(bytes_beq _ _).2 rfl]⟩
  ·have e2:(fg a==fg b)=false:=by
    cases hb:(fg a==fg b) with
    | false=>rfl
    | true=>exact absurd (HE ((bytes_beq _ _).1 hb)) e
   exact .inr ⟨e,by rw[h,e2]⟩
end Go.Proofs.D
set_option linter.unusedVariables false
set_option maxRecDepth 20000
set_option maxHeartbeats 0
open Go Go.Abs Go.Proofs Go.Proofs.D
namespace Go.Abs
section
variable {C:Ctx}{T:RT}{n:Nat}{k:bC}{F:ar}{own:bh}{ops rest:List Oper}{o:Oper}{Q:bC->ar->bh->List Rec->Prop}
theorem WT.Cl(hT:aS C T=true){t:TypeId}{xo lo hi:Operand}{s:ByteArray}{j m:Nat}{kd kd2:IntKind}{r:Row}(a b:Nat->Nat)(f:Nat->List UInt8)(hop:o.op=.slice t xo (some lo) (some hi) none)(hw:aF ops k o=some true){dst:Nat}(hdst:o.dst=some dst)(hn:Nat.blt dst n=true)
  (hx:aW C k xo=some (.string s)) (hl:aW C k lo=some (.int kd (a j:Nat))) (hh:aW C k hi=some (.int kd2 (b j:Nat))) (hr:rowOf T t=some r) (hd:r.d=.string) (hj:j<m)
  (htab:((List.range m).all λj=>Nat.ble (a j) (b j)&&Nat.ble (b j) s.size&&((s.extract (a j) (b j)).data.toList==f j))=true)
  (h:WT C n ops rest ((dst,.string ⟨(f j).toArray⟩)::k) F own (λk2 F2 own2 rs=>Q k2 F2 own2 (⟨F,own,F,own,[]⟩::rs))):WT C n ops (o::rest) k F own Q:=by
 have h1:=SI.1 htab j (RQ.2 hj);simp only[IN,SK] at h1;obtain⟨⟨h2,h3⟩,h4⟩:=h1;have h5:s.extract (a j) (b j)=⟨(f j).toArray⟩:=by
  apply ByteArray.ext;rw[<-h4]
 refine WT.still (l:=[]) hw (by rw[hop];simp only[aX,hx]) (λh0 _=>?_) (by rw[hdst,aA hn];exact h);rw[hop];have h6:lH (aW C k) none=some none:=rfl;simp only[aN,hx,lH,hl,hh,kT,kj hT hr hd,db,Sp];rw[By (TO _),By (TO _),T0,T0];simp only[h2,h3,TJ,RH,h5,Sp]
theorem WT.Ag{t ty:TypeId}{xo yo:Operand}{a b:ByteArray}(hop:o.op=.binOp .add t xo yo ty)(hw:aF ops k o=some true){dst:Nat}(hdst:o.dst=some dst)(hn:Nat.blt dst n=true)
  (hx:aW C k xo=some (.string a)) (hy:aW C k yo=some (.string b)) (hs:a.size+b.size<=9223372036854775807)
  (h:WT C n ops rest ((dst,.string (a++b))::k) F own (λk2 F2 own2 rs=>Q k2 F2 own2 (⟨F,own,F,own,[]⟩::rs))):WT C n ops (o::rest) k F own Q:=by
 refine WT.still (l:=[]) hw (by rw[hop];simp only[aX,hx,hy];rfl) (λh0 _=>?_) (by rw[hdst,aA hn];exact h);rw[hop];have h2:Nat.ble (a.size+b.size) 9223372036854775807=true:=Sf hs;simp only[aN,hx,hy,kW,lV,h2,RH,Sp]
end
end Go.Abs
namespace Go.Proofs.D
theorem Oy:BinOp.mul≠.shl/\BinOp.mul≠.shr:=⟨λh=>(by cases h),λh=>(by cases h)⟩
theorem Mi{i:Nat}(h:2*i<=9223372036854775807):dj .mul .i64 (i:Int) 2=some (.int .i64 ((2*i:Nat):Int)):=by
 simp only[dj];rw[wrap64 ⟨by omega,by omega⟩];congr 2;omega
theorem ER(F:ar)(i:Nat)(hi:i<100):Abs.Spec CC 242 [.int .i64 i] F [] λ_ v o=>o=[]/\v=.string (fg (fR i)):=by
 refine Abs.Spec.fn (n:=15) Tryz.func242 rfl rfl λown=>?_;refine aj ?_;refine AW.cond Z (λh=>?_) (λh=>?_)
 ·have h:i<10:=by simp at h;omega
  refine aj ?_;refine WT.Cl hT (j:=i) (m:=10) (λj=>j) (λj=>j+1) fR Z Z Z Z Z Z Z Z Z h (by decide +kernel) ?_;refine aj ?_;exact AW.ret ⟨_,[],⟨_,_,rfl,rfl,rfl⟩,bY,rfl,rfl⟩
 ·have h:¬i<10:=by simp at h;omega
  refine aj ?_;refine WT.Em (v:=.int .i64 ((2*i:Nat):Int)) Z Z Z Z Z Z Oy (Mi zo) ?_;refine aj ?_;refine WT.Em (v:=.int .i64 ((2*i:Nat):Int)) Z Z Z Z Z Z Oy (Mi zo) ?_;refine aj ?_;refine WT.Cl hT (j:=i) (m:=100) (λj=>2*j) (λj=>2*j+2) (λj=>[UInt8.ofNat (48+j / 10),UInt8.ofNat (48+j % 10)]) Z Z Z Z Z Z Z Z Z hi (by decide +kernel) ?_;refine aj ?_;refine AW.ret ⟨_,[],⟨_,_,rfl,rfl,rfl⟩,bY,rfl,?_⟩;unfold fR;rw[AT h];rfl
theorem wi(F:ar)(i:Nat)(hi:i<100):Abs.Spec CC 220 [.int .i64 i,.int .i64 10] F [] λ_ v o=>o=[]/\v=.string (fg (fR i)):=by
 refine Abs.Spec.fn (n:=54) Tryz.func220 rfl rfl λown=>?_;refine aj ?_;refine AW.cond Z (λ_=>?_) (λh=>(by cases h));refine aj ?_;refine AW.cond Z (λ_=>?_) (λh=>(by simp at h;omega));refine aj ?_;refine WT.a6 Tryz.func242 Z Z Z Z Z Z (ER _ i hi) (λv hv=>?_);subst hv;refine aj ?_;exact AW.ret ⟨_,[],⟨_,_,rfl,rfl,rfl⟩,bY,rfl,rfl⟩
theorem D7(F:ar)(i:Nat)(hi:i<100):Abs.Spec CC 191 [.int .i64 i] F [] λ_ v o=>o=[]/\v=.string (fg (fR i)):=by
 refine Abs.Spec.fn (n:=5) Tryz.func191 rfl rfl λown=>?_;refine aj ?_;refine WT.a6 Tryz.func220 Z Z Z Z Z Z (wi _ i hi) (λv hv=>?_);subst hv;refine aj ?_;exact AW.ret ⟨_,[],⟨_,_,rfl,rfl,rfl⟩,bY,rfl,rfl⟩
theorem yH(F:ar)(i:Nat)(hi:i<100):Abs.Spec CC 149 [.int .i64 i] F [] λ_ v o=>o=[]/\v=.string (fg (fR i)):=by
 refine Abs.Spec.fn (n:=5) Tryz.func149 rfl rfl λown=>?_;refine aj ?_;refine WT.a6 Tryz.func191 Z Z Z Z Z Z (D7 _ i hi) (λv hv=>?_);subst hv;refine aj ?_;exact AW.ret ⟨_,[],⟨_,_,rfl,rfl,rfl⟩,bY,rfl,rfl⟩
theorem oM(i:Nat):(fR i).length<=2:=by unfold fR;split<;>simp
theorem Dq(F:ar)(x:Lr)(hx:x.az<100/\x.dot<100):Abs.Spec CC 148 [.agg ⟨[.int .i64 x.az,.int .i64 x.dot]⟩] F [] λ_ v o=>o=[]/\v=.string (fg (rj x)):=by
 have h1:=oM x.az;have h2:=oM x.dot;refine Abs.Spec.fn (n:=11) Tryz.func148 rfl rfl λown=>?_;refine AW.seq (AW.dp ?_);refine WT.cy Z Z Z Z Z Z (λi1 hi1=>?_);refine aj ?_;refine AW.draw (ps:=[(3,6),(5,2)]) Z Z ?_;refine aj ?_;refine WT.a6 Tryz.func149 Z Z Z Z Z Z (yH _ x.az hx.1) (λv hv=>?_);subst hv;refine WT.Ag Z Z Z Z Z Z (by rw[jV];show _+1<=_;omega) ?_;refine aj ?_;refine WT.a6 Tryz.func149 Z Z Z Z Z Z (yH _ x.dot hx.2) (λv hv=>?_);subst hv
 refine WT.Ag Z Z Z Z Z Z (by rw[show (fg (fR x.az)++{ data:=#[46] }:ByteArray)=fg (fR x.az)++fg [46] from rfl,lu,jV,jV,RP];show _+1+_<=_;omega) ?_;refine aj ?_;refine⟨oY,?_⟩;refine AW.ret ⟨_,[],⟨_,_,rfl,rfl,rfl⟩,bY,rfl,?_⟩;show Value.string (fg (fR x.az)++fg [46]++fg (fR x.dot))=_;rw[lu,lu,SL];rfl
theorem Gb(x:Lr):(rj x).length<=5:=by
 have h1:=oM x.az;have h2:=oM x.dot;unfold rj;simp only[RP,R4];omega
def OE(g:ai)(x:Lr):Prop:=x.az<=g.rules.length/\x.dot<=(if x.az=g.rules.length then 1 else ((g.rules[x.az]?).map (·.right.length)).getD 0)
theorem fD.ok{g:ai}{l:List Lr}(hl:∀x∈l,OE g x){x:Lr}(h:fD g l x):OE g x:=by
 induction h with
 | base h=>exact hl _ h
 | more _ _ h _ _=>exact⟨SF (gS h).1,R6 _⟩
structure Rx where
 xs:List Lr
 a:Option Addr
 c:Nat
 B:List (Nat×aE)
structure Qv where
 a:Option Addr
 m:Nat
 c:Nat
 B:List (Nat×aE)
theorem Ks{g:ai}{j:Nat}(h:j<g.ae):(cB g).take (j+1)=(cB g).take j++[⟨true,j⟩]:=by
 have:(cB g)[j]?=some ⟨true,j⟩:=qU (y:=⟨true,j⟩) h;rw[RZ,this];rfl
theorem Lh{g:ai}{j:Nat}(h:j<g.au):(cB g).take (g.ae+j+1)=(cB g).take (g.ae+j)++[⟨false,j⟩]:=by
 have:(cB g)[j+g.ae]?=some ⟨false,j⟩:=qU (y:=⟨false,j⟩) h;rw[Ud] at this;rw[RZ,this];rfl
theorem zZ(F:ar)(g:ai)(hg:Valid g){a:Option Addr}{m c:Nat} :
  Abs.Spec CC 146 [.agg ⟨ak g a m c⟩] F [] λF' v o=>o=[]/\∃a' n' c',v=.slice a' n' c'/\bj fh F' a' n' c' (cB g):=by
 have hgt:=hg.range.ae;have hgn:=hg.range.au;unfold ak;refine Abs.Spec.fn (n:=29) Tryz.func146 rfl rfl λown=>?_;refine AW.seq (AW.dp ?_);refine WT.cy Z Z Z Z Z Z (λi1 hi1=>?_);refine aj ?_;refine AW.range (S:=Qv) (λs=>[(3,.slice s.a s.m s.c)]) (λs=>s.B::[(i1,.cells false [.int .i64 g.ae,.int .i64 g.au,.int .i64 g.start,.slice a m c])]::own) (λj s G=>dR fh G s.a s.m s.c s.B ((cB g).take j)) g.ae ⟨none,0,0,[]⟩
  Z Z Z Z Z Z Z Z Z zo rfl rfl (λ_=>rfl) (λ_=>rfl) sM (ah.flat (NO _)) (dR.gz _ _) ?_ ?_
 ·intro j s F1 hF1 hj hb;have hbl:=hb.len;rw[Sm,gg] at hbl;refine aj ?_;refine WT.a6 Tryz.func115 Z Z Z Z Z Z (Lm _ _) (λv hv=>?_);subst hv;refine WT.be hT Z Z Z Z Z Z Z Z Z Z Z Z Z Z (λi9 hi9=>?_);refine WT.bX (R:=fh) (ys:=[(⟨true,j⟩:Sym)]) hT 1 hb Z (λ_=>rfl) Z Z Z Z Z Z Z Z Z Z Z (λh0 s0=>bw hT s0 0 Z Z Z Z) (aH.single (R:=fh) (x:=⟨true,j⟩) rfl) Z (by decide) kF (λa3 c3 B3 hB3=>?_);refine aj ?_;exact⟨⟨a3,s.m+1,c3,B3⟩,sM,dH,by show dR fh _ _ _ _ _ ((cB g).take (j+1));rw[Ks hj];exact hB3⟩
 ·intro s F1 hF1 hb;refine aj ?_;refine AW.range (S:=Qv) (λs=>[(3,.slice s.a s.m s.c)]) (λs=>s.B::[(i1,.cells false [.int .i64 g.ae,.int .i64 g.au,.int .i64 g.start,.slice a m c])]::own) (λj s G=>dR fh G s.a s.m s.c s.B ((cB g).take (g.ae+j))) g.au ⟨s.a,s.m,s.c,s.B⟩
   Z Z Z Z Z Z Z Z Z zo rfl rfl (λ_=>rfl) (λ_=>rfl) sM oR hb ?_ ?_
  ·intro j s F2 hF2 hj hb;have hbl:=hb.len;rw[Sm,gg] at hbl;refine aj ?_;refine WT.a6 Tryz.func84 Z Z Z Z Z Z (va _ _) (λv hv=>?_);subst hv;refine WT.be hT Z Z Z Z Z Z Z Z Z Z Z Z Z Z (λi9 hi9=>?_);refine WT.bX (R:=fh) (ys:=[(⟨false,j⟩:Sym)]) hT 1 hb Z (λ_=>rfl) Z Z Z Z Z Z Z Z Z Z Z (λh0 s0=>bw hT s0 0 Z Z Z Z) (aH.single (R:=fh) (x:=⟨false,j⟩) rfl) Z (by decide) kF (λa3 c3 B3 hB3=>?_);refine aj ?_;exact⟨⟨a3,s.m+1,c3,B3⟩,sM,dH,by show dR fh _ _ _ _ _ ((cB g).take (g.ae+j+1));rw[Lh hj];exact hB3⟩
  ·intro s F2 hF2 hb;rw[RN (by rw[gg];exact AS _)] at hb;refine AW.ay 0 Z Z (λF3 hF3 hB3=>?_);refine aj ?_;exact AW.ret ⟨_,[],⟨_,_,rfl,rfl,rfl⟩,bY,rfl,_,_,_,rfl,hb.frozen hF3 hB3⟩
noncomputable def Fh(g:ai)(st:List Lr)(y:Sym):Option (List Lr):=if fz g st y=[] then none else some (fP g (fz g st y))
theorem Gj{g:ai}{st:List Lr}{y:Sym}{j:Nat}{x:Lr}(h:st[j]?=some x):fz g (st.take (j+1)) y=fz g (st.take j) y++(if aQ g x=some y then [⟨x.az,x.dot+1⟩] else []):=by
 unfold fz;rw[RZ,h,List.filterMap_append];congr 1;simp only[Option.toList_some,List.filterMap_cons,List.filterMap_nil];by_cases e:aQ g x=some y
 ·rw[By e,By e]
 ·rw[AT e,AT e]
structure QS where
 a:Option Addr
 m:Nat
 c:Nat
 B:List (Nat×aE)
 l:List Lr
theorem EK(F:ar)(g:ai)(hg:Valid g){ig:Nat}{ro:Bool}{a:Option Addr}{m c:Nat}(hi:F ig=some (.cells ro (ak g a m c)))(hr:bj cC F a m c g.rules){b:Option Addr}{n d:Nat}{st:List Lr}(hst:bj fY F b n d st)(hn:n<=1000)(hok:∀x∈st,jR g x)(y:Sym)(hy:ck g.ae g.au y) :
  Abs.Spec CC 153 [.slice b n d,.agg ⟨[.bool y.term,.int .i64 y.n]⟩,.pointer (some ⟨ig,0,none⟩)] F [] λF' v o=>o=[]/\∃a' n' c' z s,v=.tuple ⟨[.slice a' n' c',.bool z]⟩/\bj fY F' a' n' c' s/\Fh g st y=if z=true then some s else none:=by
 have hgr:=hg.range.rules;have hrl:=hr.len;have hsl:=hst.len;have hg4:∀r∈g.rules,r.right.length<=100:=λr h=>by have:=(hg.right r h).2.1;omega
 unfold ak at hi;obtain⟨yt,yn⟩:=y;refine Abs.Spec.fn (n:=46) Tryz.func153 rfl rfl λown=>?_;refine AW.seq (AW.dp ?_);refine WT.cy Z Z Z Z Z Z (λi4 hi4=>?_);refine aj ?_;refine AW.range (S:=QS) (λs=>[(7,.slice s.a s.m s.c)]) (λs=>s.B::[(i4,.cells false [.bool yt,.int .i64 yn])]::own) (λj s G=>dR fY G s.a s.m s.c s.B s.l/\s.l=fz g (st.take j) ⟨yt,yn⟩/\s.m<=j) n ⟨none,0,0,[],[]⟩
  Z Z Z Z Z Z Z Z Z zo rfl rfl (λ_=>rfl) (λ_=>rfl) sM (ah.flat (NO _)) ⟨dR.gz _ _,rfl,AS _⟩ ?_ ?_
 ·intro j s F1 hF1 hj hP;obtain⟨hb,hsk,hsm⟩:=hP;have hst1:=hst.mono hF1;have hr1:=hr.mono hF1;have hi1:=hF1 _ _ hi;refine aj ?_;refine WT.bG hT hst1 Z Z Z Z Z Z Z Z Z zo (λx hxj b1 off ro1 cs lx hb1 hp1 hrel=>?_);obtain rfl:lx=_:=hrel;have hxo:=hok x (gM hxj);have hkt:=Gj (g:=g) (y:=⟨yt,yn⟩) hxj;refine aj ?_;refine WT.aK hT Z Z Z Z Z Z (λi9 hi9=>?_);refine aj ?_;have haf:=lZ F1 g hg4 hr1 zo x (by have:=hxo.1;omega);unfold ak at haf;refine WT.a6 Tryz.func150 Z Z Z Z Z Z haf (λv hv=>?_);obtain⟨z,bo,rfl,hay,han⟩:=hv;obtain⟨zt,zn⟩:=z;refine aj ?_
  refine WT.aK hT Z Z Z Z Z Z (λi10 hi10=>?_);refine aj ?_;have hbl:=hb.len;refine WT.split 25 Z (λhbo=>?_) (λhbo=>?_)
  ·have hay:=hay hbo;refine aj ?_;refine AW.cond Z (λh=>?_) (λh=>?_)
   ·have e:(⟨zt,zn⟩:Sym)=⟨yt,yn⟩:=by
     simp only[UF,IN,SK] at h;obtain⟨h1,h2⟩:=h;subst h1;congr 1;omega
    rw[e] at hay;have hxd:x.dot<=100:=by
     have:=hxo.2;have h2:(bg g x.az).length<=100:=by
      unfold bg;split
      ·simp
      ·cases hq:g.rules[x.az]? with
       | none=>simp
       | some r=>exact hg4 r (gM hq)
     omega
    refine aj ?_;refine WT.be hT Z Z Z Z Z Z Z Z Z Z Z Z Z Z (λi37 hi37=>?_);refine WT.bX (R:=fY) (ys:=[(⟨x.az,x.dot+1⟩:Lr)]) hT 3 hb Z (λ_=>rfl) Z Z Z Z Z Z Z Z Z Z Z (λh0 s0=>bw hT s0 0 Z Z Z Z) (aH.single (R:=fY) (x:=⟨x.az,x.dot+1⟩) rfl) Z (by decide) kF (λa3 c3 B3 hB3=>?_);refine aj ?_;refine⟨⟨a3,s.m+1,c3,B3,s.l++[⟨x.az,x.dot+1⟩]⟩,sM,dH,hB3,?_,by dsimp only;omega⟩;show s.l++_=_;rw[hkt,By hay,hsk]
   ·have hno:¬aQ g x=some ⟨yt,yn⟩:=λe=>by
     rw[hay] at e;have e:=BY e;simp only[Sym.mk.injEq] at e;rw[e.1,e.2] at h;simp at h
    refine aj ?_;refine⟨s,sM,dH,hb,?_,by omega⟩;rw[hkt,AT hno,Sq];exact hsk
  ·have han:=han hbo;have hno:¬aQ g x=some ⟨yt,yn⟩:=λe=>by rw[han] at e;cases e
   refine aj ?_;refine AW.cond Z (λh=>(by cases h)) (λ_=>?_);refine aj ?_;refine⟨s,sM,dH,hb,?_,by omega⟩;rw[hkt,AT hno,Sq];exact hsk
 ·intro s F1 hF1 hP;obtain⟨hb,hsk,hsm⟩:=hP;rw[RN zo] at hsk;have hbl:=hb.len;have hi1:=hF1 _ _ hi;refine AW.ay 0 Z Z (λF2 hF2 hB2=>?_);have hx:=hb.frozen hF2 hB2;have hi2:=hF2 _ _ hi1;have hkok:∀z∈s.l,z.az<=g.rules.length:=λz hz=>by rw[hsk] at hz;exact(gi z hz).1.1
  refine aj ?_;have hcs:=rA F2 g hg4 ((hr.mono hF1).mono hF2) zo hx zo hkok;unfold ak at hcs;refine WT.cO Tryz.func152 Z Z Z Z Z Z hcs (λF3 v hF3 hv=>?_);obtain⟨a8,m8,c8,zs,rfl,hz,hzm,hstr,hmem⟩:=hv;refine aj ?_;refine AW.ret ⟨_,[],⟨_,_,rfl,⟨_,_,rfl,rfl,rfl⟩,rfl⟩,bY,rfl,a8,m8,c8,_,zs,rfl,hz,?_⟩;unfold Fh;by_cases e:fz g st ⟨yt,yn⟩=[]
  ·rw[By e,AT];rw[hsk,e] at hbl;have:s.m=0:=hbl;simp[this]
  ·rw[AT e,By]
   ·congr 1;refine(BM (λz hz=>(gi z hz).1) hstr λz=>?_).symm;rw[hmem,hsk]
   ·have:0<s.m:=by
     rw[hbl,hsk];exact List.length_pos_iff.2 e
    exact decide_eq_true zo
structure Rs where
 j:Nat
 a:Option Addr
 c:Nat
 B:List (Nat×aE)
theorem CQ.some{T:Nat->Nat}{c:Int}(h:CQ T c)(hc:c≠0):∃d,1<=T d:=by
 rcases h with ⟨n,⟨D,hD⟩,h2⟩ | ⟨h,_⟩
 ·refine⟨D,?_⟩;rw[hD D (AS _)];rcases TP n with e | e
  ·subst e;exact absurd h2 (by simpa using hc)
  ·exact e
 ·exact h 1
end Go.Proofs.D
set_option linter.unusedVariables false
set_option maxRecDepth 20000
set_option maxHeartbeats 0
open Go Go.Abs Go.Proofs Go.Proofs.D
namespace Go.Abs
section
variable {C:Ctx}{T:RT}{n:Nat}{k:bC}{F:ar}{own:bh}{ops rest:List Oper}{o:Oper}{Q:bC->ar->bh->List Rec->Prop}{args':List Value}
theorem WT.K9{f:FuncId}{fn:Func}{fo:Operand}{as_:Array Operand}{ts:Array TypeId}{args args' first capt:List Value}{P:ar->Value->Prop}(hf:C.func f=some fn)(hb:fn.body.isSome=true)(hop:o.op=.call ⟨.value fo,as_,ts⟩)
  (hw:aF ops k o=some true) {dst:Nat} (hdst:o.dst=some dst) (hn:Nat.blt dst n=true) (hfo:aW C k fo=some (.func (.func f) ⟨first⟩ ⟨capt⟩)) (hv:dI (aW C k) as_.toList=some args) (hargs:first++args++capt=args') (spec:Spec C f args' F [] λF' v o=>o=[]/\P F' v)
  (h:∀F' v,ar.le F F'->P F' v->WT C n ops rest ((dst,v)::k) F' own (λk2 F2 own2 rs=>Q k2 F2 own2 (⟨F,own,F',own,[]⟩::rs))) :
  WT C n ops (o::rest) k F own Q:=by
 subst hargs;refine WT.step (l:=[]) (by rw[hop];rfl) λe h' hk hs=>?_;obtain⟨v,h1,F1,oout,⟨m,hd⟩,hF,hs1,rfl,hp⟩:=spec own h' hs;refine⟨v,h1,F1,own,⟨m,λN hN=>?_⟩,hF,hs1,by rw[hdst,aA hn];exact h F1 v hF hp⟩;unfold ep;rw[eC hk hw];have:aN C (aW C k) h' o.op=some (.call f (first++args++capt)):=by
  rw[hop];simp only[aN,hfo,hv,qi hf hb]
 simp only[dU hk.eval this,hd N hN]
end
end Go.Abs
namespace Go.Proofs.D
def fv:Ty Bool where
 size:=1
 rel:=λ_ l x=>l=[.bool x]
 len:=λ_ _ _ h=>by subst h;rfl
 one:=λ_ _ _ h=>by subst h;rfl
 mono:=λ_ _ _ _ _ h=>h
def L3(to:Nat):List Sym->Nat->List Key->Prop
 | [],i,ks=>ks=[]/\i=to
 | s::l,i,ks=>∃q ks',ks=q::ks'/\q.sym=s/\q.gW=i/\L3 to l q.to ks'
structure M7(g:ai)(S:List Key)(k:Key)(p:iK)(kp:eI):Prop where
 num:p=gH S kp
 az:∃r,g.rules[kp.az]?=some r/\r.left=k.sym.n/\L3 k.to r.right k.gW kp.kids
 ins:∀q∈kp.kids,q∈S
structure PM(g:ai)(w:List Nat)(S:List Key)(k:Key)(x:Node):Prop where
 key:x.key=k
 term:k.sym.term=true->k.to=k.gW+1/\k.to<=w.length/\w[k.gW]?=some k.sym.n/\x.fX=[]
 JD:k.sym.term=false->x.fX≠[]
 pack:∀p∈x.fX,∃kp,M7 g S k p kp
 sorted:x.fX.Pairwise λx y=>jq x y<0
end Go.Proofs.D
set_option linter.unusedVariables false
set_option maxRecDepth 20000
set_option maxHeartbeats 0
open Go Go.Abs Go.Proofs Go.Proofs.D
namespace Go.Abs
section
variable {C:Ctx}{T:RT}{n:Nat}{k:bC}{F:ar}{own:bh}{ops rest:List Oper}{o:Oper}{Q:bC->ar->bh->List Rec->Prop}{α:Type}{R:Ty α}
theorem WT.Ps(hT:aS C T=true)(p:Nat){t:TypeId}{ao:Operand}{a:Option Addr}{m c j b:Nat}{B:List (Nat×aE)}{xs:List α}{x:α}{r:Row}(hv:dM R F a m c B xs)(ha:a=some ⟨b,0,none⟩)(hj:xs[j]?=some x)(hop:o.op=.load t ao)(hw:aF ops k o=some true){dst:Nat}(hdst:o.dst=some dst)(hn:Nat.blt dst n=true)
  (hao:aW C k ao=some (.pointer (some ⟨b,j*R.size,none⟩))) (hp:own[p]?=some B) (hr:rowOf T t=some r) (hd:r.d.agg=false) (hs:R.size=1)
  (h:∀v,R.rel F [v] x->WT C n ops rest ((dst,v)::k) F own (λk2 F2 own2 rs=>Q k2 F2 own2 (⟨F,own,F,own,[b]⟩::rs))):WT C n ops (o::rest) k F own Q:=by
 obtain⟨i,cs,h1,rfl,h3,h4⟩:=hv.at_ hj;rw[ha] at h1;injection h1 with h1;injection h1 with h1;subst h1;obtain⟨l,h5,h6⟩:=h3.at j x hj;have hl:=R.len _ _ _ h6;rw[show R.size=1 from hs] at hao h5 hl
 match l,hl,h5,h6 with
 | [v],_,h5,h6=>exact WT.vj p hop hw hao hp me (xp hT hr hd (Gs h5 rfl)) (by rw[hdst,aA hn];exact h v h6)
end
end Go.Abs
namespace Go.Proofs.D
theorem uj{α:Type}[DecidableEq α]:∀(os:List (Option α)) (bz:List α) (o:Option α),bZ bz (os++[o])=((de (bZ bz os).1 o).1,(bZ bz os).2++[(de (bZ bz os).1 o).2])
 | [],bz,o=>rfl
 | x::os,bz,o=>by
  have ih:=uj os (de bz x).1 o;show ((bZ (de bz x).1 (os++[o])).1,(de bz x).2::(bZ (de bz x).1 (os++[o])).2)=_;rw[ih];rfl
theorem CG{α:Type}[DecidableEq α](bz:List α)(a:List (Option α)):∀(b:List (Option α)),(bZ bz a).1.length<=(bZ bz (a++b)).1.length:=by
 intro b
 induction a generalizing bz with
 | nil=>
  obtain⟨⟨ex,h⟩,_⟩:=lh b bz;show bz.length<=(bZ bz b).1.length;rw[h,RP];omega
 | cons o a ih=>exact ih (de bz o).1
def xR{α:Type}[DecidableEq α](s:α)(S:List α):Nat:=S.idxOf s
theorem JU{α:Type}[DecidableEq α]{s:α}{S T:List α}(h:s∈S):xR s (S++T)=xR s S:=by
 unfold xR;rw[List.idxOf_append,By h]
theorem J8{α:Type}[DecidableEq α]{s:α}{S:List α}(h:s∉S):xR s (S++[s])=S.length:=by
 unfold xR;rw[List.idxOf_append,AT h];simp
def sH{σ:Type}[DecidableEq σ](key:σ->List UInt8)(P:List σ->Prop)(es:cQ (List UInt8))(S:List (List σ)):Prop:=∀s,P s->Abs.look es (dK key s)=if s∈S then some (.int .i64 (xR s S:Nat)) else none
theorem sH.add{σ:Type}[DecidableEq σ]{key:σ->List UInt8}{P:List σ->Prop}{es:cQ (List UInt8)}{S:List (List σ)}(h:sH key P es S)(hinj:∀s s',P s->P s'->dK key s=dK key s'->s=s'){s:List σ}(hs:P s)(hn:s∉S) :
  sH key P (dC es (dK key s) (.int .i64 (S.length:Nat))) (S++[s]):=by
 intro s' hs';rw[gf];by_cases e:s'=s
 ·subst e;rw[By rfl,By (SC _ (List.mem_singleton_self _))];rw[J8 hn]
 ·rw[AT (λe2=>e (hinj s' s hs' hs e2)),h s' hs'];by_cases hm:s'∈S
  ·rw[By hm,By (Sw _ hm)];rw[JU hm]
  ·rw[AT hm,AT];intro h2;rcases R5.1 h2 with h2 | h2
   ·exact hm h2
   ·exact e (RK.1 h2)
theorem sH.one{σ:Type}[DecidableEq σ]{key:σ->List UInt8}{P:List σ->Prop}(hinj:∀s s',P s->P s'->dK key s=dK key s'->s=s'){s:List σ}(hs:P s):sH key P (dC [] (dK key s) (.int .i64 0)) [s]:=
 sH.add (S:=[]) (es:=[]) (λs' _=>by simp[Abs.look]) hinj hs (by simp)
theorem FQ{α:Type}[DecidableEq α]{most f i:Nat}{step:α->List (Option α)}{bz:List α}(rows:List (List Int))(_:Unit){st:α}(h:bz[i]?=some st) :
  mh most step (f+1) i bz rows=if (bZ bz (step st)).1.length<=most then mh most step f (i+1) (bZ bz (step st)).1 (rows++[(bZ bz (step st)).2]) else none:=by
 conv=>lhs;unfold mh
 rw[h]
theorem wD(F:ar){b:Option Addr}{n d:Nat}{l:List Lr}(hl:bj fY F b n d l)(hn:n<=1000){i6:Nat}{ro:Bool}{fk:Nat}{fnk:Func}(hgk:CC.func fk=some fnk)(hbk:fnk.body.isSome=true)(hi6:F i6=some (.cells ro [.func (.func fk) ⟨[]⟩ ⟨[]⟩]))
  (key:Lr->List UInt8) (hlen:∀x∈l,(key x).length<=20) (hkey:∀x∈l,∀G,ar.le F G->Abs.Spec CC fk [.agg ⟨[.int .i64 x.az,.int .i64 x.dot]⟩] G [] λ_ v o=>o=[]/\v=.string (fg (key x))) :
  Abs.Spec CC 192 [.slice b n d,.pointer (some ⟨i6,0,none⟩)] F [] λ_ v o=>o=[]/\v=.string (fg (dK key l)):=by
 have hll:=hl.len;have htot:∀j,(dK key (l.take j)).length<=21*j:=by
  intro j
  induction j with
  | zero=>simp[dK]
  | succ j ih=>
   rw[RZ];cases hx:l[j]? with
   | none=>simp;omega
   | some x=>
    rw[Option.toList_some,pX,RP,RP,Tw];have:=hlen x (gM hx);omega
 refine Abs.Spec.fn (n:=21) Tryz.func192 rfl rfl λown=>?_;refine aj ?_;refine AW.range (S:=List UInt8) (λs=>[(4,.string (fg s))]) (λ_=>own) (λj s G=>s=dK key (l.take j)) n [] Z Z Z Z Z Z Z Z Z zo Z Z (λ_=>rfl) (λ_=>rfl) sM oR Z ?_ ?_
 ·intro j s F1 hF1 hj hP;have hl1:=hl.mono hF1;have hi1:=hF1 _ _ hi6;have ht:=htot j;refine aw ?_;refine WT.bG hT hl1 Z Z Z Z Z Z Z Z Z zo (λx hxj b1 off ro1 cs lx hb1 hp1 hrel=>?_);obtain rfl:lx=_:=hrel;have hxm:=gM hxj;have hxl:=hlen x hxm;refine aw ?_;refine WT.aK hT Z Z Z Z Z Z (λi9 hi9=>?_);refine aw ?_;refine WT.eB (first:=[]) (args:=[.agg ⟨[.int .i64 x.az,.int .i64 x.dot]⟩]) (capt:=[]) hgk hbk Z Z Z Z Z Z Z (hkey x hxm F1 hF1) (λv hv=>?_)
  subst hv;refine WT.Ag Z Z Z Z Z Z (by rw[jV];show _+1<=_;omega) ?_;refine WT.Ag Z Z Z Z Z Z (by rw[show (fg (key x)++{ data:=#[59] }:ByteArray)=fg (key x++[59]) from lu _ [59],jV,jV,hP,RP];show _+(_+1)<=_;omega) ?_;refine WT.jB (v':=.string (fg (s++(key x++[59])))) 18 Z (by show Value.string (fg s++(fg (key x)++fg [59]))=_;rw[lu,lu]) ?_;refine aw ?_;refine⟨s++(key x++[59]),sM,dH,?_⟩;show _=dK key (l.take (j+1));rw[RZ,hxj,Option.toList_some,pX,hP]
 ·intro s F1 hF1 hP;rw[RN zo] at hP;refine aw ?_;exact AW.ret ⟨_,[],⟨_,_,rfl,rfl,rfl⟩,bY,rfl,by rw[hP];rfl⟩
structure Qc where
 i:Nat
 bz:List (List Lr)
 rows:List (List Int)
 sa:Option Addr
 sn:Nat
 sc:Nat
 SB:List (Nat×aE)
 ta:Option Addr
 tn:Nat
 tc:Nat
 TB:List (Nat×aE)
 es:cQ (List UInt8)
structure PO where
 bz:List (List Lr)
 row:List Int
 sa:Option Addr
 sn:Nat
 sc:Nat
 SB:List (Nat×aE)
 ra:Option Addr
 rn:Nat
 rc:Nat
 RB:List (Nat×aE)
 es:cQ (List UInt8)
theorem Ai(F:ar)(g:ai)(hg:Valid g){ga:Option Addr}{gm gc:Nat}{b:Option Addr}{n d:Nat}{st0:List Lr}(h0:bj fY F b n d st0)
  {fk fx:Nat} {fnk fnx:Func} {firstx captx:List Value} (hgk:CC.func fk=some fnk) (hbk:fnk.body.isSome=true) (hgx:CC.func fx=some fnx) (hbx:fnx.body.isSome=true)
  (key:Lr->List UInt8) (nx:List Lr->Sym->Option (List Lr)) (P:List Lr->Prop) (okx:Lr->Prop)
  (hP0:P st0) (hPl:∀s,P s->s.length<=1000/\∀x∈s,okx x) (hinj:∀s s',P s->P s'->dK key s=dK key s'->s=s') (hnP:∀s y s',P s->nx s y=some s'->P s')
  (hlen:∀x,okx x->(key x).length<=20) (hkey:∀x,okx x->∀G,ar.le F G->Abs.Spec CC fk [.agg ⟨[.int .i64 x.az,.int .i64 x.dot]⟩] G [] λ_ v o=>o=[]/\v=.string (fg (key x)))
  (hnext:∀G,ar.le F G->∀(a:Option Addr) (m c:Nat) (s:List Lr) (y:Sym),P s->bj fY G a m c s->ck g.ae g.au y->
   Abs.Spec CC fx (firstx++[.slice a m c,.agg ⟨[.bool y.term,.int .i64 y.n]⟩]++captx) G [] λG' v o=>o=[]/\∃a' n' c' z s',v=.tuple ⟨[.slice a' n' c',.bool z]⟩/\bj fY G' a' n' c' s'/\nx s y=if z=true then some s' else none) :
  Abs.Spec CC 151 [.agg ⟨ak g ga gm gc⟩,.slice b n d,.func (.func fk) ⟨[]⟩ ⟨[]⟩,.func (.func fx) ⟨firstx⟩ ⟨captx⟩] F [] λF' v o=>o=[]/\
   ((mh 400 (λs=>(cB g).map (nx s)) 401 0 [st0] []=none/\v=.tuple ⟨[.slice none 0 0,.slice none 0 0,.bool false]⟩)\/
    ∃S rows a1 n1 c1 a2 n2 c2,mh 400 (λs=>(cB g).map (nx s)) 401 0 [st0] []=some (S,rows)/\v=.tuple ⟨[.slice a1 n1 c1,.slice a2 n2 c2,.bool true]⟩/\bj (cg fY) F' a1 n1 c1 S/\bj (cg iF) F' a2 n2 c2 rows):=by
 have hgt:=hg.range.ae;have hgn:=hg.range.au;have hl0:=h0.len;unfold ak;refine Abs.Spec.fn (n:=93) Tryz.func151 rfl rfl λown=>?_;refine AW.seq (AW.dp ?_);refine WT.cy Z Z Z Z Z Z (λi4 hi4=>?_);refine WT.cy Z Z Z Z Z Z (λi6 hi6=>?_);refine aw ?_;refine WT.ay 0 Z Z (λF0 hF0 hB0=>?_);have hi6:=hB0 i6 _ me;have h01:=h0.mono hF0;refine WT.be hT Z Z Z Z Z Z Z Z Z Z Z Z Z Z (λi26 hi26=>?_);refine aw ?_;refine WT.makeMap Z Z Z Z (λim him=>?_);refine aw ?_
 refine WT.eB (first:=[]) (args:=[.slice b n d]) (capt:=[.pointer (some ⟨i6,0,none⟩)]) Tryz.func192 Z Z Z Z Z Z Z Z (wD F0 h01 (hl0▸(hPl _ hP0).1) hgk hbk hi6 key (λx hx=>hlen x ((hPl _ hP0).2 x hx)) (λx hx G hG=>hkey x ((hPl _ hP0).2 x hx) G (hF0.trans hG))) (λv hv=>?_)
 subst hv;refine WT.Ad xx hT 0 0 (m:=[]) (key:=dK key st0) Z Z Z Z Z Z Z Z Z Z Z Z ?_;refine aw ?_;refine AW.block ?_;refine AW.cm (S:=Qc) (λs=>[(15,.int .i64 (s.i:Nat)),(12,.slice s.sa s.sn s.sc),(14,.slice s.ta s.tn s.tc)]) (λs=>s.TB::[(im,.map (aG xx s.es))]::s.SB::[]::[(i4,.cells false [.int .i64 g.ae,.int .i64 g.au,.int .i64 g.start,.slice ga gm gc])]::own)
  (λs G=>mh 400 (λs=>(cB g).map (nx s)) 401 0 [st0] []=mh 400 (λs=>(cB g).map (nx s)) (401-s.i) s.i s.bz s.rows/\ou 400 (λs=>(cB g).map (nx s)) st0 s.i s.bz s.rows/\dR (cg fY) G s.sa s.sn s.sc s.SB s.bz/\dR (cg iF) G s.ta s.tn s.tc s.TB s.rows/\sH key P s.es s.bz/\∀x∈s.bz,P x) (λs=>401-s.i)
  ⟨0,[st0],[],some ⟨i26,0,none⟩,1,1,[(i26,.cells false [.slice b n d])],none,0,0,[],dC [] (dK key st0) (.int .i64 0)⟩
  sM (ah.flat (NO _)) ⟨rfl,ou.begin _ _ (by decide),⟨rfl,.inr ⟨i26,_,rfl,rfl,rfl,aH.single (R:=cg fY) (x:=st0) ⟨_,_,_,rfl,h01⟩,by decide⟩⟩,dR.gz _ _,sH.one hinj hP0,λx hx=>by rw[RK.1 hx];exact hP0⟩ ?_
 intro s F1 hF1 hI;obtain⟨hnum,hN,hsb,htb,hmp,hall⟩:=hI;have hfew:=hN.qL;have hle:=hN.le;have hrl:=hN.len;have hsn:=hsb.len;have htn:=htb.len;have hi61:=hF1 _ _ hi6;refine KM ?_;refine AW.cond Z (λh=>?_) (λh=>?_)
 ·have hlt:s.i<s.bz.length:=by simp at h;omega
  obtain⟨st,hst⟩:∃st,s.bz[s.i]?=some st:=⟨_,gE hlt⟩;have hPst:=hall st (gM hst);refine KM ?_;refine AW.block ?_;refine KM ?_;have hsy:=zZ F1 g hg (a:=ga) (m:=gm) (c:=gc);unfold ak at hsy;refine WT.cO Tryz.func146 Z Z Z Z Z Z hsy (λF2 v hF2 hv=>?_);obtain⟨ya,yn,yc,rfl,hy⟩:=hv;have hyl:=hy.len;rw[gg] at hyl;refine KM ?_
  refine AW.range (S:=PO) (λu=>[(12,.slice u.sa u.sn u.sc),(16,.slice u.ra u.rn u.rc)]) (λu=>u.RB::s.TB::[(im,.map (aG xx u.es))]::u.SB::[]::[(i4,.cells false [.int .i64 g.ae,.int .i64 g.au,.int .i64 g.start,.slice ga gm gc])]::own)
   (λk u G=>bZ s.bz (((cB g).map (nx st)).take k)=(u.bz,u.row)/\u.bz.length<=400/\dR (cg fY) G u.sa u.sn u.sc u.SB u.bz/\dR iF G u.ra u.rn u.rc u.RB u.row/\sH key P u.es u.bz/\∀x∈u.bz,P x) yn ⟨s.bz,[],s.sa,s.sn,s.sc,s.SB,none,0,0,[],s.es⟩
   Z Z Z Z Z Z Z Z Z zo rfl rfl (λ_=>rfl) (λ_=>rfl) sM (ah.flat (NO _)) ⟨rfl,hfew,hsb.mono hF2,dR.gz _ _,hmp,hall⟩ ?_ ?_
  ·intro k u F3 hF3 hk hI;obtain⟨hadd,hu4,hub,hrb,hum,huall⟩:=hI;have hy3:=hy.mono hF3;have hi63:=hF3 _ _ (hF2 _ _ hi61);have hrow:=hrb.len;have hun:=hub.len;obtain⟨⟨ex,hex⟩,hnd,_,hro⟩:=lh (((cB g).map (nx st)).take k) s.bz;rw[hadd] at hex hnd hro;have hex:u.bz=s.bz++ex:=hex;have hrl:=hro.len;rw[Sm,RL,gg] at hrl;have hrl:u.row.length=k:=by
    have h9:u.row.length=min k (g.ae+g.au):=hrl;rw[h9,SN zo]
   have hsti:u.bz[s.i]?=some st:=by rw[hex,RW hlt];exact hst
   refine pC ?_;refine WT.bG hT hy3 Z Z Z Z Z Z Z Z Z (by rw[gg];omega) (λy hyk b1 off1 ro1 cs1 lx1 hb1 hp1 hrel1=>?_);obtain rfl:lx1=_:=hrel1;obtain⟨hyo,hyi⟩:=Db hyk;have hosk:((cB g).map (nx st))[k]?=some (nx st y):=by rw[RM,hyk];rfl
   have htk:((cB g).map (nx st)).take (k+1)=((cB g).map (nx st)).take k++[nx st y]:=by rw[RZ,hosk];rfl
   refine pC ?_;refine WT.aK hT Z Z Z Z Z Z (λi18 hi18=>?_);refine pC ?_;refine WT.bA hT hub.vec Z Z Z Z Z Z Z Z Z (by rw[hun,hex,RP];omega) (λb5 hb5=>?_);refine WT.Ps hT 4 hub.vec hb5 hsti Z Z Z Z Z Z Z Z Z (λv hv=>?_);obtain⟨qa,qn,qc,hv,hq⟩:=hv;obtain rfl:v=.slice qa qn qc:=by simpa using hv
   refine pC ?_;refine WT.K9 (first:=firstx) (args:=[.slice qa qn qc,.agg ⟨[.bool y.term,.int .i64 y.n]⟩]) (capt:=captx) hgx hbx Z Z Z Z Z Z Z (hnext F3 (hF0.trans (hF1.trans (hF2.trans hF3))) _ _ _ st y hPst hq hyo) (λF4 v hF4 hv=>?_)
   obtain⟨za,zn,zc,zb,s',rfl,hz,hnx⟩:=hv;have hrb4:=hrb.mono hF4;have hub4:=hub.mono hF4;have hsnoc:=uj (((cB g).map (nx st)).take k) s.bz (nx st y);rw[<-htk,hadd] at hsnoc;refine pC ?_;refine AW.cond Z (λhzb=>?_) (λhzb=>?_)
   ·have hzb:zb=false:=by simpa using hzb
    rw[hzb,AT (by simp)] at hnx;rw[hnx] at hsnoc;refine pC ?_;refine WT.be hT Z Z Z Z Z Z Z Z Z Z Z Z Z Z (λi58 hi58=>?_);refine WT.bX (R:=iF) (ys:=[-1]) hT 2 hrb4 Z (λ_=>rfl) Z Z Z Z Z Z Z Z Z Z Z (λh0 s0=>bw hT s0 0 Z Z Z Z) (aH.single (R:=iF) (x:=-1) rfl) Z (by decide) kF (λa3 c3 B3 hB3=>?_);refine pC ?_;refine AW.exit ?_;exact⟨⟨u.bz,u.row++[-1],u.sa,u.sn,u.sc,u.SB,a3,u.rn+1,c3,B3,u.es⟩,sM,dH,hsnoc,hu4,hub4,hB3,hum,huall⟩
   ·have hzb:zb=true:=by simpa using hzb
    rw[hzb,By rfl] at hnx;rw[hnx] at hsnoc;have hPs:=hnP st y s' hPst hnx;refine pC ?_;refine WT.eB (first:=[]) (args:=[.slice za zn zc]) (capt:=[.pointer (some ⟨i6,0,none⟩)]) Tryz.func192 Z Z Z Z Z Z Z Z (wD F4 hz (hz.len▸(hPl _ hPs).1) hgk hbk (hF4 _ _ hi63) key (λx hx=>hlen x ((hPl _ hPs).2 x hx)) (λx hx G hG=>hkey x ((hPl _ hPs).2 x hx) G (hF0.trans (hF1.trans (hF2.trans (hF3.trans (hF4.trans hG))))))) (λv hv=>?_)
    subst hv;refine pC ?_;have hlk:=hum s' hPs;refine WT.LR xx hT 3 (m:=u.es) (key:=dK key s') Z Z Z Z Z Z Z me Z Z Z (λv hv=>?_) (λhv=>?_)
    ·rw[hv] at hlk;have hmem:s'∈u.bz:=by
      by_cases hm:s'∈u.bz
      ·exact hm
      ·rw[AT hm] at hlk;cases hlk
     rw[By hmem] at hlk;obtain rfl:=BY hlk;have hone:de u.bz (some s')=(u.bz,((xR s' u.bz:Nat):Int)):=by unfold de;simp only[By hmem];rfl
     rw[hone] at hsnoc;refine pC ?_;refine AW.cond Z (λh=>(by cases h)) (λ_=>?_);refine pC ?_;refine WT.be hT Z Z Z Z Z Z Z Z Z Z Z Z Z Z (λi58 hi58=>?_);refine WT.bX (R:=iF) (ys:=[((xR s' u.bz:Nat):Int)]) hT 2 hrb4 Z (λ_=>rfl) Z Z Z Z Z Z Z Z Z Z Z (λh0 s0=>bw hT s0 0 Z Z Z Z) (aH.single (R:=iF) (x:=((xR s' u.bz:Nat):Int)) rfl) Z (by decide) kF (λa3 c3 B3 hB3=>?_);refine pC ?_;exact⟨⟨u.bz,u.row++[((xR s' u.bz:Nat):Int)],u.sa,u.sn,u.sc,u.SB,a3,u.rn+1,c3,B3,u.es⟩,sM,dH,hsnoc,hu4,hub4,hB3,hum,huall⟩
    ·rw[hv] at hlk;have hmem:s'∉u.bz:=λhm=>by rw[By hm] at hlk;cases hlk
     have hone:de u.bz (some s')=(u.bz++[s'],((u.bz.length:Nat):Int)):=by unfold de;simp only[AT hmem]
     rw[hone] at hsnoc;refine pC ?_;refine AW.cond Z (λ_=>?_) (λh=>(by cases h));refine pC ?_;refine AW.cond Z (λh4=>?_) (λh4=>?_)
     ·have h4:u.bz.length=400:=by simp at h4;omega
      refine pC ?_;refine AW.ret ⟨_,[],⟨_,_,rfl,⟨_,_,rfl,⟨_,_,rfl,rfl,rfl⟩,rfl⟩,rfl⟩,bY,rfl,.inl ⟨?_,rfl⟩⟩;rw[hnum,show 401-s.i=(400-s.i)+1 by omega,FQ _ () hst,AT];have h5:=CG s.bz (((cB g).map (nx st)).take (k+1)) (((cB g).map (nx st)).drop (k+1));rw[S2,hsnoc] at h5;simp only[RP,Tw] at h5;omega
     ·have h4:u.bz.length≠400:=by simp at h4;omega
      refine pC ?_;refine WT.oh xx hT 3 0 (m:=u.es) (key:=dK key s') Z Z Z Z Z Z Z Z Z Z Z Z ?_;refine pC ?_;refine WT.be hT Z Z Z Z Z Z Z Z Z Z Z Z Z Z (λi80 hi80=>?_);refine WT.bX (R:=cg fY) (ys:=[s']) hT 5 hub4 Z (λ_=>rfl) Z Z Z Z Z Z Z Z Z Z Z (λh0 s0=>bw hT s0 0 Z Z Z Z) (aH.single (R:=cg fY) (x:=s') ⟨_,_,_,rfl,hz⟩) Z (by decide) kF (λa4 c4 B4 hB4=>?_);refine pC ?_;refine WT.be hT Z Z Z Z Z Z Z Z Z Z Z Z Z Z (λi58 hi58=>?_)
      refine WT.bX (R:=iF) (ys:=[((u.sn:Nat):Int)]) hT 3 hrb4 Z (λ_=>rfl) Z Z Z Z Z Z Z Z Z Z Z (λh0 s0=>bw hT s0 0 Z Z Z Z) (aH.single (R:=iF) (x:=((u.sn:Nat):Int)) rfl) Z (by decide) kF (λa3 c3 B3 hB3=>?_);refine pC ?_;have hum2:=hum.add hinj hPs hmem;rw[<-hun] at hum2 hsnoc;refine⟨⟨u.bz++[s'],u.row++[((u.sn:Nat):Int)],a4,u.sn+1,c4,B4,a3,u.rn+1,c3,B3,dC u.es (dK key s') (.int .i64 (u.sn:Nat))⟩,sM,dH,hsnoc,?_,hB4,hB3,hum2,λx hx=>?_⟩
      ·show (u.bz++[s']).length<=400;rw[RP,Tw];omega
      ·rcases R5.1 hx with hx | hx
       ·exact huall x hx
       ·rw[RK.1 hx];exact hPs
  ·intro u F3 hF3 hI;obtain⟨hadd,hu4,hub,hrb,hum,huall⟩:=hI;rw[RN (by rw[RL,gg];omega)] at hadd;refine AW.ay 0 Z Z (λF4 hF4 hB4=>?_);have hrow:=hrb.frozen hF4 hB4;have hF14:=(hF2.trans hF3).trans hF4;have htb4:=htb.mono hF14;refine pC ?_;refine WT.be hT Z Z Z Z Z Z Z Z Z Z Z Z Z Z (λi89 hi89=>?_);refine WT.bX (R:=cg iF) (ys:=[u.row]) hT 2 htb4 Z (λ_=>rfl) Z Z Z Z Z Z Z Z Z Z Z (λh0 s0=>bw hT s0 0 Z Z Z Z) (aH.single (R:=cg iF) (x:=u.row) ⟨_,_,_,rfl,hrow⟩) Z (by decide) kF (λa3 c3 B3 hB3=>?_)
   refine pC ?_;have hstep:(bZ s.bz ((cB g).map (nx st))).1=u.bz/\(bZ s.bz ((cB g).map (nx st))).2=u.row:=by rw[hadd];exact⟨rfl,rfl⟩
   have hN2:=hN.next hst (by rw[hstep.1];exact hu4)
   have hun:=hub.len;refine⟨⟨s.i+1,u.bz,s.rows++[u.row],u.sa,u.sn,u.sc,u.SB,a3,s.tn+1,c3,B3,u.es⟩,by dsimp only;omega,sM,dH,?_,?_,hub.mono hF4,hB3,hum,huall⟩
   ·rw[hnum,show 401-s.i=(400-s.i)+1 by omega,FQ _ () hst,By (by rw[hstep.1];exact hu4),hstep.1,hstep.2];show mh 400 _ (400-s.i) (s.i+1) _ _=mh 400 _ (401-(s.i+1)) (s.i+1) _ _;rw[show 401-(s.i+1)=400-s.i by omega]
   ·rw[hstep.1,hstep.2] at hN2;exact hN2
 ·have hge:s.bz.length<=s.i:=by simp at h;omega
  refine AW.exit ?_;refine AW.ay 0 Z Z (λF2 hF2 hB2=>?_);refine AW.ay 2 Z Z (λF3 hF3 hB3=>?_);have ht:=htb.frozen hF2 hB2;have hs3:=(hsb.mono hF2).frozen hF3 hB3;refine KM ?_;refine AW.ret ⟨_,[],⟨_,_,rfl,⟨_,_,rfl,⟨_,_,rfl,rfl,rfl⟩,rfl⟩,rfl⟩,bY,rfl,.inr ⟨s.bz,s.rows,_,_,_,_,_,_,?_,rfl,hs3,ht.mono hF3⟩⟩;rw[hnum,show 401-s.i=(400-s.i)+1 by omega];unfold mh;rw[R3 hge]
def PI(g:ai)(s:List Lr):Prop:=s.length<=1000/\∀x∈s,jR g x
theorem Pa{g:ai}(hg:Valid g){x:Lr}(h:jR g x):x.az<100/\x.dot<100:=by
 have hr:=hg.range.rules;obtain⟨h1,h2⟩:=h;refine⟨by omega,?_⟩;have:(bg g x.az).length<=4:=by
  unfold bg;split
  ·simp
  ·cases hq:g.rules[x.az]? with
   | none=>simp
   | some r=>exact(hg.right r (gM hq)).2.1
 omega
theorem Hr{g:ai}(hg:Valid g):(rS g).length<=1000:=by
 have hr:=hg.range.rules;unfold rS;rw[List.length_flatten,Ti];have:∀n≤g.rules.length+1,((List.range n).map (List.length ∘ λk=>(List.range ((bg g k).length+1)).map λd=>(⟨k,d⟩:Lr))).sum<=n*5:=by
  intro n hn
  induction n with
  | zero=>simp
  | succ n ih=>
   rw[TX,Si,U4];have ih:=ih zo;simp only[JN,SQ,SG,U5,Function.comp,RL,S0];have h2:(bg g n).length<=4:=by
    unfold bg;split
    ·simp
    ·cases hq:g.rules[n]? with
     | none=>simp
     | some r=>exact(hg.right r (gM hq)).2.1
   omega
 have h:=this _ (AS _);omega
theorem np{g:ai}(hg:Valid g)(l:List Lr):PI g (fP g l):=by
 refine⟨?_,ld⟩;have h1:=Hr hg;have h2:=TQ (λz=>@decide (fD g l z) (Classical.propDecidable _)) (rS g);unfold fP;omega
theorem yg(F:ar)(g:ai)(hg:Valid g){a:Option Addr}{m c:Nat}(hr:bj cC F a m c g.rules) :
  Abs.Spec CC 100 [.agg ⟨ak g a m c⟩] F [] λF' v o=>o=[]/\((kI g=none/\v=.tuple ⟨[.agg ⟨[.slice none 0 0,.slice none 0 0]⟩,.int .i64 2]⟩)\/
   ∃I rows a1 n1 c1 a2 n2 c2,kI g=some (I,rows)/\v=.tuple ⟨[.agg ⟨[.slice a1 n1 c1,.slice a2 n2 c2]⟩,.int .i64 0]⟩/\bj (cg fY) F' a1 n1 c1 I/\bj (cg iF) F' a2 n2 c2 rows):=by
 have hrl:=hr.len;have hgr:=hg.range.rules;have hg4:∀r∈g.rules,r.right.length<=100:=λr h=>by have:=(hg.right r h).2.1;omega
 refine Abs.Spec.fn (n:=34) Tryz.func100 rfl rfl λown=>?_;refine AW.seq (AW.dp ?_);refine WT.cy Z Z Z Z Z Z (λi1 hi1=>?_);refine WT.ay 0 Z Z (λF0 hF0 hB0=>?_);have hi1:=hB0 i1 _ me;have hr:=hr.mono hF0;unfold ak at hi1 ⊢;refine WT.aK hT Z Z Z Z Z Z (λi2 hi2=>?_);refine aw ?_;have hck:=ml F0 g hg.range hr;unfold ak at hck;refine WT.a6 Tryz.func85 Z Z Z Z Z Z hck (λv hv=>?_);rw[hg.zU] at hv;subst hv;refine aw ?_;refine AW.cond Z (λh=>(by cases h)) (λ_=>?_);refine aw ?_;refine AW.draw (ps:=[(0,6),(0,7),(1,6)]) Z Z ?_;refine aw ?_
 refine WT.be hT Z Z Z Z Z Z Z Z Z Z Z Z Z Z (λi21 hi21=>?_);refine WT.ay 0 Z Z (λF1 hF1 hB1=>?_);have hk1:bj fY F1 (some ⟨i21,0,none⟩) 1 2 [⟨g.rules.length,0⟩]:=by
  have hb:dR fY F0 (some ⟨i21,0,none⟩) 1 2 [(i21,.cells false [.int .i64 m,.int .i64 0])] [⟨g.rules.length,0⟩]:=⟨rfl,.inr ⟨i21,_,rfl,rfl,rfl,aH.single (R:=fY) (x:=⟨g.rules.length,0⟩) (by rw[<-hrl];rfl),by decide⟩⟩;exact hb.frozen hF1 hB1
 have hr1:=hr.mono hF1;have hi11:=hF1 _ _ hi1;have hcs:=rA F1 g hg4 hr1 zo hk1 zo (λz hz=>(js z hz).1);unfold ak at hcs;refine WT.cO Tryz.func152 Z Z Z Z Z Z hcs (λF2 v hF2 hv=>?_);obtain⟨a8,m8,c8,zs,rfl,hz,hzm,hstr,hmem⟩:=hv;obtain rfl:zs=lX g:=BM js hstr hmem;have hr2:=hr1.mono hF2;have hi12:=hF2 _ _ hi11;refine aw ?_;have hnm:=Ai F2 g hg (ga:=a) (gm:=m) (gc:=c) hz (fk:=148) (fx:=153) (firstx:=[]) (captx:=[.pointer (some ⟨i1,0,none⟩)]) Tryz.func148 rfl Tryz.func153 rfl
  rj (Fh g) (PI g) (λx=>x.az<100/\x.dot<100) (np hg _) (λs hs=>⟨hs.1,λx hx=>Pa hg (hs.2 x hx)⟩)
  (λs s' hs hs' e=>GR (λx hx=>Pa hg (hs.2 x hx)) (λx hx=>Pa hg (hs'.2 x hx)) e)
  (λs y s' _ e=>by
   unfold Fh at e;split at e
   ·cases e
   ·obtain rfl:=BY e;exact np hg _)
  (λx _=>by have:=Gb x;omega) (λx hx G _=>Dq G x hx)
  (λG hG a' m' c' s y hs hA hy=>EK G g hg (hG _ _ hi12) (hr2.mono hG) hA (hA.len▸hs.1) hs.2 y hy)
 unfold ak at hnm;refine WT.cO Tryz.func151 Z Z Z Z Z Z hnm (λF3 v hF3 hv=>?_);rcases hv with ⟨hno,rfl⟩ | ⟨S,rows,a1,n1,c1,a2,n2,c2,hyes,rfl,hS,hR⟩
 ·refine aw ?_;refine⟨oY,?_⟩;refine aw ?_;refine AW.cond Z (λ_=>?_) (λh=>(by cases h));refine aw ?_;exact AW.ret ⟨_,[],⟨_,_,⟨_,rfl,λG h0 s0=>br (s0.has (p:=1) rfl me) (bO hT rfl)⟩,⟨_,_,rfl,rfl,rfl⟩,rfl⟩,bY,rfl,.inl ⟨hno,rfl⟩⟩
 ·refine aw ?_;refine⟨oY,?_⟩;refine aw ?_;refine AW.cond Z (λh=>(by cases h)) (λ_=>?_);refine aw ?_;exact AW.ret ⟨_,[],⟨_,_,⟨_,rfl,λG h0 s0=>br (s0.has (p:=1) rfl me) (bO hT rfl)⟩,⟨_,_,rfl,rfl,rfl⟩,rfl⟩,bY,rfl,.inr ⟨S,rows,_,_,_,_,_,_,hyes,rfl,hS,hR⟩⟩
def Qx(x:bQ):List Value:=[.int .i64 x.item.az,.int .i64 x.item.dot,.int .u32 x.set]
def pE:Ty bQ where
 size:=3
 rel:=λ_ l x=>l=Qx x
 len:=λ_ _ _ h=>by rw[h];rfl
 one:=λ_ _ _ h=>by rw[h];rfl
 mono:=λ_ _ _ _ _ h=>h
theorem EG(F:ar)(g:ai)(hg:Valid g)(J:List Bool->List (List Bool)->Prop)(hJ0:J (List.replicate g.au false) (List.replicate g.au (List.replicate g.ae false)))
  (hJs:∀E Fi r,r∈g.rules->J E Fi->∀E',(E'=E\/(E'=E.set r.left true/\(ofRow E Fi (List.replicate g.ae false) r.right).2=true))->J E' (Fi.set r.left (aC (Fi.getD r.left []) (ofRow E Fi (List.replicate g.ae false) r.right).1)))
  {a:Option Addr} {m c:Nat} (hr:bj cC F a m c g.rules) :
  Abs.Spec CC 131 [.agg ⟨ak g a m c⟩] F [] λF' v o=>o=[]/\∃is E Fi,v=.pointer (some ⟨is,0,none⟩)/\wL F' is g a m c E Fi/\J E Fi/\E.length=g.au/\Fi.length=g.au:=by
 unfold ak;have hrlen:=hr.len;have hgr:=hg.range.rules;have hgn:=hg.range.au;have hgt:=hg.range.ae;refine Abs.Spec.fn (n:=81) Tryz.func131 rfl rfl λown=>?_;refine AW.seq (AW.dp ?_);refine WT.cy Z Z Z Z Z Z (λi1 hi1=>?_);refine WT.ay 0 Z Z (λF0 hF0 hB0=>?_);have hi1:=hB0 i1 _ me;have hr:=hr.mono hF0;refine aw ?_;refine AW.draw (ps:=[(0,3)]) Z Z ?_;refine aw ?_;refine WT.uw (l:=g.au) hT Z Z Z Z Z Z Z Z Z Z Z Z kF (λie hie=>?_);rw[nG];refine aw ?_;refine WT.cy Z Z Z Z Z Z (λis his=>?_);refine aw ?_;refine⟨oY,?_⟩;refine aw ?_
 refine AW.range (S:=FS) (λ_=>[]) (λs=>[(is,.cells false [.int .i64 g.ae,.int .i64 g.au,.int .i64 g.start,.slice a m c,.slice (some ⟨ie,0,none⟩) g.au (if g.au=0 then 0 else 1),.slice s.a s.m s.c])]::s.B::[(ie,.cells false (List.replicate g.au (.bool false)))]::s.bs::[]::own)
  (λj s G=>dR xC G s.a s.m s.c s.B s.vs/\Abs.Rows aO s.vs s.bs (List.replicate j (List.replicate g.ae false))) g.au ⟨none,0,0,[],[],[]⟩ Z Z Z Z Z Z Z Z Z zo rfl rfl (λ_=>rfl) (λ_=>rfl) sM (ah.flat (NO _)) ⟨dR.gz _ _,Abs.Rows.nil⟩ ?_ ?_
 ·intro j s F1 hF1 hj hP;obtain⟨hb,hR⟩:=hP;have hi1:=hF1 _ _ hi1;have hblen:=hb.len;have hvl:=hR.len.1;rw[SX] at hvl;refine AW.draw (ps:=[(4,7),(4,8)]) Z Z ?_;refine aw ?_;refine WT.uw (l:=g.ae) hT Z Z Z Z Z Z Z Z Z Z Z Z kF (λir hir=>?_);rw[nG];refine WT.be hT Z Z Z Z Z Z Z Z Z Z Z Z Z Z (λi9 hi9=>?_)
  refine WT.bX (R:=xC) (ys:=[.slice (some ⟨ir,0,none⟩) g.ae (if g.ae=0 then 0 else 1)]) hT 3 hb Z (λ_=>rfl) Z Z Z Z Z Z Z Z Z Z Z (λh0 s0=>bw hT s0 0 Z Z Z Z) (aH.single (R:=xC) ⟨rfl,rfl⟩) Z (by decide) kF (λa3 c3 B3 hB3=>?_);refine aw ?_;refine⟨oY,?_⟩;refine⟨⟨a3,s.m+1,c3,B3,s.vs++[.slice (some ⟨ir,0,none⟩) g.ae (if g.ae=0 then 0 else 1)],s.bs++[(ir,.cells false (List.replicate g.ae (.bool false)))]⟩,sM,?_,hB3,?_⟩
  ·refine ah.skip _ (ah.flat ?_);simp only[S8,List.singleton_append];have:=uh (ir,aE.cells false (List.replicate g.ae (.bool false))) ((is,aE.cells false [.int .i64 g.ae,.int .i64 g.au,.int .i64 g.start,.slice a m c,.slice (some ⟨ie,0,none⟩) g.au (if g.au=0 then 0 else 1),.slice a3 (s.m+1) c3])::(B3++[(ie,.cells false (List.replicate g.au (.bool false)))])) s.bs ([]++own.flatten);simpa using this
  ·rw[show List.replicate (j+1) (List.replicate g.ae false)=List.replicate j (List.replicate g.ae false)++[List.replicate g.ae false] from List.replicate_succ'];have:=hR.snoc (K:=aO) (id:=ir) (row:=List.replicate g.ae false) (c:=if g.ae=0 then 0 else 1) (by simp);rw[SX,Uo] at this;exact this
 ·intro s F1 hF1 hP;obtain⟨hb,hR⟩:=hP;have hi1:=hF1 _ _ hi1;have hvl:=hR.len.1;rw[SX] at hvl;have hr1:=hr.mono hF1;have hblen:=hb.len;obtain⟨io,cs,hia,hic,hiB,hcells,_⟩:=hb.at_.resolve_left (λh=>by rw[h.1] at hvl;simp at hvl;omega);have hcs:=yw hcells;subst hcs;have hic:s.c=1:=hic;refine aw ?_
  refine AW.le (own2:=((is,.cells false [.int .i64 g.ae,.int .i64 g.au,.int .i64 g.start,.slice a m c,.slice (some ⟨ie,0,none⟩) g.au (if g.au=0 then 0 else 1),.slice (some ⟨io,0,none⟩) g.au 1])::(io,.cells false s.vs)::(ie,.cells false ((List.replicate g.au false).map aO.cell))::s.bs)::own) (ah.flat ?_) ?_
  ·rw[hia,hic,hiB,show s.m=g.au by omega,Uo];exact NO _
  refine AW.block ?_;refine AW.cm (S:=FM) (λt=>[(4,.bool t.again)]) (λt=>((is,.cells false [.int .i64 g.ae,.int .i64 g.au,.int .i64 g.start,.slice a m c,.slice (some ⟨ie,0,none⟩) g.au (if g.au=0 then 0 else 1),.slice (some ⟨io,0,none⟩) g.au 1])::(io,.cells false s.vs)::(ie,.cells false (t.E.map aO.cell))::t.bs)::own)
   (λt G=>Abs.Rows aO s.vs t.bs t.Fi/\nK g.au g.ae t.Fi/\t.E.length=g.au/\(t.again=false->eG g t.E t.Fi)/\J t.E t.Fi) (λt=>if t.again=true then 1+(g.au+g.au*g.ae-(fB t.E+dt t.Fi)) else 0) ⟨List.replicate g.au false,List.replicate g.au (List.replicate g.ae false),s.bs,true⟩
   sM oR ⟨hR,⟨by simp,λr hr=>by rw[Tk hr];simp⟩,by simp,λh=>(by cases h),hJ0⟩ ?_
  intro t F2 hF2 hP;obtain⟨hR,hM,hE,hC,hJ⟩:=hP;have hi1:=hF2 _ _ hi1;have hr2:=hr1.mono hF2;refine aw ?_;refine AW.cond Z (λh=>?_) (λh=>?_)
  ·refine aw ?_;refine AW.block ?_;refine aw ?_;refine AW.range (S:=FM) (λt=>[(4,.bool t.again)]) (λt=>((is,.cells false [.int .i64 g.ae,.int .i64 g.au,.int .i64 g.start,.slice a m c,.slice (some ⟨ie,0,none⟩) g.au (if g.au=0 then 0 else 1),.slice (some ⟨io,0,none⟩) g.au 1])::(io,.cells false s.vs)::(ie,.cells false (t.E.map aO.cell))::t.bs)::own)
    (λk u G=>Abs.Rows aO s.vs u.bs u.Fi/\nK g.au g.ae u.Fi/\u.E.length=g.au/\fB t.E+dt t.Fi<=fB u.E+dt u.Fi/\(u.again=true->fB t.E+dt t.Fi<fB u.E+dt u.Fi)/\(u.again=false->∀r∈g.rules.take k,qf g.ae u.E u.Fi r)/\J u.E u.Fi) m ⟨t.E,t.Fi,t.bs,false⟩
    Z Z Z Z Z Z Z Z Z zo rfl rfl (λ_=>rfl) (λ_=>rfl) sM oR ⟨hR,hM,hE,AS _,λh=>(by cases h),by simp,hJ⟩ ?_ ?_
   ·intro k u F3 hF3 hk hP;obtain⟨hR,hM,hE,hT1,hT2,hC,hJu⟩:=hP;have hi1:=hF3 _ _ hi1;have hr3:=hr2.mono hF3;refine aw ?_;refine WT.bG hT hr3 Z Z Z Z Z Z Z Z Z zo (λr hrk b1 off ro cs lx hb hp1 hrel=>?_);obtain⟨b2,n2,d2,rfl,hr4⟩:=hrel;obtain⟨hrl,hrr,hrs⟩:=hg.right r (gM hrk);have hr4l:=hr4.len;refine aw ?_;refine WT.aK hT Z Z Z Z Z Z (λi6 hi6=>?_);refine aw ?_
    have lk3:∀G,ar.le F3 G->(∀i b,(i,b)∈((is,aE.cells false [.int .i64 g.ae,.int .i64 g.au,.int .i64 g.start,.slice a m c,.slice (some ⟨ie,0,none⟩) g.au (if g.au=0 then 0 else 1),.slice (some ⟨io,0,none⟩) g.au 1])::(io,.cells false s.vs)::(ie,.cells false (u.E.map aO.cell))::u.bs)->G i=some b)->
      bj fv G (some ⟨ie,0,none⟩) g.au (if g.au=0 then 0 else 1) u.E/\bj (cg fv) G (some ⟨io,0,none⟩) g.au 1 u.Fi:=by
     intro G hG hBG;constructor
     ·have:=dS (K:=aO) (R:=fv) (F:=G) (id:=ie) (row:=u.E) (c:=if u.E.length=0 then 0 else 1) (ro:=false) rfl (λ_ _=>rfl) rfl (hBG ie _ (by simp));rw[hE] at this;exact this
     ·have:=Abs.Rows.arr (K:=aO) (R:=fv) rfl (λ_ _=>rfl) (F:=G) (o:=io) (c:=if u.Fi.length=0 then 0 else 1) (ro:=false) hR (λi b hm=>hBG i b (by simp[hm])) rfl (hBG io _ (by simp));rw[hM.size,AT zo] at this;exact this
    refine WT.GV 1 Tryz.func133 Z Z Z Z Z Z Z (λG hG hBG=>xm G (ae:=g.ae) (au:=g.au) (hBG is _ me) (lk3 G hG hBG).1 (lk3 G hG hBG).2 hM.row zo (hr4.mono hG) zo hrs) (λv B hv=>?_);obtain⟨ir,rfl,hofl,rfl⟩:=hv;have hRC:qf g.ae u.E u.Fi r↔aC (u.Fi.getD r.left []) (ofRow u.E u.Fi (List.replicate g.ae false) r.right).1=u.Fi.getD r.left []/\((ofRow u.E u.Fi (List.replicate g.ae false) r.right).2=true->u.E.getD r.left false=true):=Iff.rfl;have hJr:=hJs u.E u.Fi r (gM hrk) hJu
    generalize ofRow u.E u.Fi (List.replicate g.ae false) r.right=fr at hofl hRC hJr ⊢;obtain⟨row,emp⟩:=fr;dsimp only at hofl hRC hJr;have hFl:r.left<u.Fi.length:=by rw[hM.size];exact hrl
    have hrow0:=gE hFl;generalize hrow0':u.Fi[r.left]=c6 at hrow0;have holdl:=hM.row c6 (gM hrow0);obtain⟨id,cc,hvs,hbs,hcc⟩:=hR.at r.left c6 hrow0;rw[holdl] at hvs;have hvs':s.vs[0+r.left*1]?=some (.slice (some ⟨id,0,none⟩) g.ae cc):=by rw[RY,Sy];exact hvs
    have hgetF:u.Fi.getD r.left []=c6:=by rw[No,hrow0];rfl
    have hEl:r.left<u.E.length:=by rw[hE];exact hrl
    obtain⟨e0,he0⟩:∃e0,u.E[r.left]?=some e0:=⟨_,gE hEl⟩;have hgetE:u.E.getD r.left false=e0:=by rw[No,he0];rfl
    have hE0c:(u.E.map aO.cell)[0+r.left*1]?=some (.bool e0):=by rw[RY,Sy,RM,he0];rfl
    have hol:(aC c6 row).length=g.ae:=by rw[gu zo];exact holdl
    have hR':=hR.set r.left c6 (aC c6 row) id hrow0 zo hbs;have hM':nK g.au g.ae (u.Fi.set r.left (aC c6 row)):=hM.setRow _ hol;have hcnt:=yF (row':=aC c6 row) hrow0;have hone:=AG (xs:=c6) (ys:=row) zo;have hset_same:aC c6 row=c6->u.Fi.set r.left (aC c6 row)=u.Fi:=by
     intro e;rw[e];apply SA;intro i;by_cases hi:i=r.left
     ·subst hi;rw[Sc hFl,hrow0]
     ·rw[SD zo]
    rw[hgetF,hgetE] at hRC;rw[hgetF] at hJr;refine aw ?_;refine WT.eA (j:=r.left) (s:=1) hT Z Z Z Z Z Z Z Z Z hrl ?_;refine WT.loadAt hT 2 Z Z Z Z Z Z (If _ me) Z Z hvs' ?_;refine aw ?_;have hpk:=cd hbs;have hps:=eZ (id,aE.cells false ((aC c6 row).map aO.cell)) hbs
    refine WT.le (own2:=[(ir,.cells false (row.map aO.cell))]::[(id,.cells false (c6.map aO.cell))]::((is,.cells false [.int .i64 g.ae,.int .i64 g.au,.int .i64 g.start,.slice a m c,.slice (some ⟨ie,0,none⟩) g.au (if g.au=0 then 0 else 1),.slice (some ⟨io,0,none⟩) g.au 1])::(io,.cells false s.vs)::(ie,.cells false (u.E.map aO.cell))::u.bs.eraseIdx r.left)::[(i6,.cells false [.int .i64 r.left,.slice b2 n2 d2])]::own) (ah.flat ?_) ?_
    ·simp only[S8];refine List.Perm.append_left _ ?_;exact uN _ _ [_,_,_] _ _ _ hpk
    refine WT.pq (dg:=λD'=>[(ir,.cells false (row.map aO.cell))]::D'::((is,.cells false [.int .i64 g.ae,.int .i64 g.au,.int .i64 g.start,.slice a m c,.slice (some ⟨ie,0,none⟩) g.au (if g.au=0 then 0 else 1),.slice (some ⟨io,0,none⟩) g.au 1])::(io,.cells false s.vs)::(ie,.cells false (u.E.map aO.cell))::u.bs.eraseIdx r.left)::[(i6,.cells false [.int .i64 r.left,.slice b2 n2 d2])]::own) 0 1 Tryz.func134 Z Z Z Z Z Z (NO _) (λ_=>NO _) (λG hG hBG=>qk G (it:=id) (xs:=c6) (ys:=row) (m:=g.ae) zo (by
     have:=dS (K:=aO) (R:=fv) (F:=G) (id:=ir) (row:=row) (c:=if row.length=0 then 0 else 1) (ro:=false) rfl (λ_ _=>rfl) rfl (hBG ir _ me);rw[hofl] at this;exact this) zo zo) (λv D hv=>?_)
    obtain⟨rfl,rfl⟩:=hv;refine WT.le (own2:=[(ir,.cells false (row.map aO.cell))]::[(i6,.cells false [.int .i64 r.left,.slice b2 n2 d2])]::((is,.cells false [.int .i64 g.ae,.int .i64 g.au,.int .i64 g.start,.slice a m c,.slice (some ⟨ie,0,none⟩) g.au (if g.au=0 then 0 else 1),.slice (some ⟨io,0,none⟩) g.au 1])::(io,.cells false s.vs)::(ie,.cells false (u.E.map aO.cell))::u.bs.set r.left (id,.cells false ((aC c6 row).map aO.cell)))::own) (ah.flat ?_) ?_
    ·simp only[S8];refine List.Perm.append_left _ ?_;exact(uN _ _ [_,_,_] _ _ _ hps).symm
    refine aw ?_;have done:∀(E':List Bool) (ag:Bool),(E'=u.E\/(E'=u.E.set r.left true/\e0=false/\ag=true/\emp=true))->(aC c6 row≠c6->ag=true)->(u.again=true->ag=true)->(ag=true->u.again=true\/aC c6 row≠c6\/fB E'=fB u.E+1)->(ag=false->emp=true->e0=true)->
      (Abs.Rows aO s.vs (u.bs.set r.left (id,.cells false ((aC c6 row).map aO.cell))) (u.Fi.set r.left (aC c6 row))/\nK g.au g.ae (u.Fi.set r.left (aC c6 row))/\E'.length=g.au/\fB t.E+dt t.Fi<=fB E'+dt (u.Fi.set r.left (aC c6 row))/\(ag=true->fB t.E+dt t.Fi<fB E'+dt (u.Fi.set r.left (aC c6 row)))/\(ag=false->∀r'∈g.rules.take (k+1),qf g.ae E' (u.Fi.set r.left (aC c6 row)) r')/\J E' (u.Fi.set r.left (aC c6 row))):=by
     intro E' ag hE' h1 h2 h3 h4;have hE1:fB u.E<=fB E'/\E'.length=g.au:=by
      rcases hE' with rfl | ⟨rfl,h5,_,_⟩
      ·exact⟨AS _,hE⟩
      ·subst h5;rw[od he0];exact⟨by omega,by simp[hE]⟩
     refine⟨hR',hM',hE1.2,by omega,λhag=>?_,λhag=>?_,hJr E' (hE'.imp (λh=>h) λh=>⟨h.1,h.2.2.2⟩)⟩
     ·rcases h3 hag with h5 | h5 | h5
      ·have:=hT2 h5;omega
      ·have:=hone.2 h5;omega
      ·omega
     ·have hch:aC c6 row=c6:=by
       rcases Classical.em (aC c6 row=c6) with h5 | h5
       ·exact h5
       ·rw[h1 h5] at hag;cases hag
      have hua:u.again=false:=by
       cases hu:u.again with
       | false=>rfl
       | true=>rw[h2 hu] at hag;cases hag
      have hEE:E'=u.E:=by
       rcases hE' with h5 | ⟨_,_,h5,_⟩
       ·exact h5
       ·rw[h5] at hag;cases hag
      subst hEE;rw[hset_same hch];exact lq hrk (hC hua) (hRC.2 ⟨hch,h4 hag⟩)
    have ownE:∀ag,ah ((λt:FM=>((is,aE.cells false [.int .i64 g.ae,.int .i64 g.au,.int .i64 g.start,.slice a m c,.slice (some ⟨ie,0,none⟩) g.au (if g.au=0 then 0 else 1),.slice (some ⟨io,0,none⟩) g.au 1])::(io,.cells false s.vs)::(ie,.cells false (t.E.map aO.cell))::t.bs)::own) ⟨u.E.set r.left true,u.Fi.set r.left (aC c6 row),u.bs.set r.left (id,.cells false ((aC c6 row).map aO.cell)),ag⟩)
      (((is,aE.cells false [.int .i64 g.ae,.int .i64 g.au,.int .i64 g.start,.slice a m c,.slice (some ⟨ie,0,none⟩) g.au (if g.au=0 then 0 else 1),.slice (some ⟨io,0,none⟩) g.au 1])::(io,.cells false s.vs)::(ie,.cells false ((u.E.map aO.cell).set (0+r.left*1) (.bool true)))::u.bs.set r.left (id,.cells false ((aC c6 row).map aO.cell)))::own):=by
     intro ag;refine ah.flat ?_;dsimp only;rw[Tb,RY,Sy];exact NO _
    refine WT.split 57 Z (λh3=>?_) (λh3=>?_)
    ·have hch:aC c6 row≠c6:=S4 h3;refine aw ?_;refine WT.split 61 Z (λh4=>?_) (λh4=>?_)
     ·refine aw ?_;refine WT.eA (j:=r.left) (s:=1) hT Z Z Z Z Z Z Z Z Z hrl ?_;refine WT.loadAt hT 2 Z Z Z Z Z Z (If _ (If _ me)) Z Z hE0c ?_;refine aw ?_;refine AW.cond Z (λh5=>?_) (λh5=>?_)
      ·have h5:e0=false:=by simpa using h5
       refine aw ?_;refine WT.eA (j:=r.left) (s:=1) hT Z Z Z Z Z Z Z Z Z hrl ?_;refine WT.storeAt hT 2 2 Z Z Z Z Z Z Z Z Z Z (by simp;omega) Z Z ?_;refine aw ?_;exact⟨_,sM,ah.skip _ (ah.skip _ (ownE true)),done _ true (.inr ⟨rfl,h5,rfl,h4⟩) (λ_=>rfl) (λ_=>rfl) (λ_=>.inr (.inr (by subst h5;exact od he0))) (λh=>(by cases h))⟩
      ·have h5:e0=true:=by simpa using h5
       refine aw ?_;exact⟨⟨u.E,u.Fi.set r.left (aC c6 row),u.bs.set r.left (id,.cells false ((aC c6 row).map aO.cell)),true⟩,sM,dH,done _ true (.inl rfl) (λ_=>rfl) (λ_=>rfl) (λ_=>.inr (.inl hch)) (λ_ _=>h5)⟩
     ·refine aw ?_;refine AW.cond Z (λh5=>(by cases h5)) (λ_=>?_);refine aw ?_;exact⟨⟨u.E,u.Fi.set r.left (aC c6 row),u.bs.set r.left (id,.cells false ((aC c6 row).map aO.cell)),true⟩,sM,dH,done _ true (.inl rfl) (λ_=>rfl) (λ_=>rfl) (λ_=>.inr (.inl hch)) (λ_ he=>(by rw[show emp=false from h4] at he;cases he))⟩
    ·have hch:aC c6 row=c6:=by simpa using h3
     refine aw ?_;refine WT.split 61 Z (λh4=>?_) (λh4=>?_)
     ·refine aw ?_;refine WT.eA (j:=r.left) (s:=1) hT Z Z Z Z Z Z Z Z Z hrl ?_;refine WT.loadAt hT 2 Z Z Z Z Z Z (If _ (If _ me)) Z Z hE0c ?_;refine aw ?_;refine AW.cond Z (λh5=>?_) (λh5=>?_)
      ·have h5:e0=false:=by simpa using h5
       refine aw ?_;refine WT.eA (j:=r.left) (s:=1) hT Z Z Z Z Z Z Z Z Z hrl ?_;refine WT.storeAt hT 2 2 Z Z Z Z Z Z Z Z Z Z (by simp;omega) Z Z ?_;refine aw ?_;exact⟨_,sM,ah.skip _ (ah.skip _ (ownE true)),done _ true (.inr ⟨rfl,h5,rfl,h4⟩) (λ_=>rfl) (λ_=>rfl) (λ_=>.inr (.inr (by subst h5;exact od he0))) (λh=>(by cases h))⟩
      ·have h5:e0=true:=by simpa using h5
       refine aw ?_;exact⟨⟨u.E,u.Fi.set r.left (aC c6 row),u.bs.set r.left (id,.cells false ((aC c6 row).map aO.cell)),u.again⟩,sM,dH,done _ u.again (.inl rfl) (λhne=>absurd hch hne) (λh=>h) (λh=>.inl h) (λ_ _=>h5)⟩
     ·refine aw ?_;refine AW.cond Z (λh5=>(by cases h5)) (λ_=>?_);refine aw ?_;exact⟨⟨u.E,u.Fi.set r.left (aC c6 row),u.bs.set r.left (id,.cells false ((aC c6 row).map aO.cell)),u.again⟩,sM,dH,done _ u.again (.inl rfl) (λhne=>absurd hch hne) (λh=>h) (λh=>.inl h) (λ_ he=>(by rw[show emp=false from h4] at he;cases he))⟩
   ·intro u F3 hF3 hP;obtain⟨hR,hM,hE,hT1,hT2,hC,hJu⟩:=hP;rw[RN zo] at hC;refine⟨u,?_,sM,dH,hR,hM,hE,hC,hJu⟩;have h1:=Bx hM;have h2:=rk u.E;rw[h,By rfl];split
    ·rename_i h4;have:=hT2 h4;omega
    ·omega
  ·refine AW.exit ?_;refine AW.ay 0 Z Z (λF3 hF3 hB3=>?_);refine aw ?_;have hEa:=dS (K:=aO) (R:=fv) (F:=F3) (id:=ie) (row:=t.E) (c:=if t.E.length=0 then 0 else 1) (ro:=false) rfl (λ_ _=>rfl) rfl (hB3 ie _ (by simp));rw[hE] at hEa;have hFa:=Abs.Rows.arr (K:=aO) (R:=fv) rfl (λ_ _=>rfl) (F:=F3) (o:=io) (c:=if t.Fi.length=0 then 0 else 1) (ro:=false) hR (λi b hm=>hB3 i b (by simp[hm])) rfl (hB3 io _ (by simp));rw[hM.size,AT zo] at hFa
   exact AW.ret ⟨_,[],⟨_,_,rfl,rfl,rfl⟩,bY,rfl,is,t.E,t.Fi,rfl,⟨⟨ie,io,_,_,false,hB3 is _ (by simp),hEa,hFa⟩,hM.row,hr2.mono hF3,hC h⟩,hJ,hE,hM.size⟩
def CZ(g:ai)(E:List Bool)(Fi:List (List Bool)):Prop:=(∀n,E.getD n false=true->HD g n)/\∀n t,(Fi.getD n []).getD t false=true->Fg g n t
theorem pt:∀{xs ys:List Bool} {t:Nat},(aC xs ys).getD t false=true->xs.getD t false=true\/ys.getD t false=true
 | [],_,_,h=>by simp[aC] at h
 | _::_,[],_,h=>by simp[aC] at h
 | x::xs,y::ys,0,h=>by simp only[aC,TH,List.getD_cons_zero] at h;simpa using h
 | x::xs,y::ys,t+1,h=>by
  simp only[aC,TH,List.getD_cons_succ] at h;exact pt (xs:=xs) (ys:=ys) h
theorem jf:∀{xs ys:List Bool} {t:Nat},xs.length=ys.length->(xs.getD t false=true\/ys.getD t false=true)->(aC xs ys).getD t false=true
 | [],[],_,_,h=>by simp at h
 | [],_::_,_,hl,_=>by simp at hl
 | _::_,[],_,hl,_=>by simp at hl
 | x::xs,y::ys,0,_,h=>by simp only[aC,TH,List.getD_cons_zero] at h ⊢;simpa using h
 | x::xs,y::ys,t+1,hl,h=>by
  simp only[aC,TH,List.getD_cons_succ] at h ⊢;exact jf (xs:=xs) (ys:=ys) (by simpa using hl) h
theorem si{l:List Bool}{n t:Nat}(h:(l.set n true).getD t false=true):t=n\/l.getD t false=true:=by
 by_cases e:t=n
 ·exact .inl e
 ·right;rw[No,SD (λe2=>e e2.symm)] at h;rw[No];exact h
theorem oC{g:ai}{E:List Bool}{Fi:List (List Bool)}(h:CZ g E Fi):∀(l:List Sym) (out:List Bool),(∀t,(ofRow E Fi out l).1.getD t false=true->out.getD t false=true\/dq g l t)/\((ofRow E Fi out l).2=true->gP g l)
 | [],out=>⟨λt ht=>.inl ht,λ_=>gP.nil⟩
 | s::l,out=>by
  obtain⟨b,n⟩:=s;unfold ofRow;cases b with
  | true=>
   rw[By rfl];refine⟨λt ht=>?_,λh=>(by cases h)⟩;rcases si ht with rfl | h2
   ·exact .inr (dq.head (.inl rfl))
   ·exact .inl h2
  | false=>
   rw[AT (by simp)];have hrow:∀t,(aC out (Fi.getD n [])).getD t false=true->out.getD t false=true\/dq g (⟨false,n⟩::l) t:=λt ht=>by
    rcases pt ht with h2 | h2
    ·exact .inl h2
    ·exact .inr (dq.head (.inr ⟨rfl,h.2 n t h2⟩))
   split
   ·rename_i hE;obtain⟨h1,h2⟩:=oC h l (aC out (Fi.getD n []));refine⟨λt ht=>?_,λht=>gP.cons rfl (h.1 n hE) (h2 ht)⟩;rcases h1 t ht with h3 | h3
    ·exact hrow t h3
    ·exact .inr (dq.cons rfl (h.1 n hE) h3)
   ·exact⟨λt ht=>hrow t ht,λh=>(by cases h)⟩
theorem iW{n t:Nat}:¬(List.replicate n false).getD t false=true:=by
 rw[No,S9];split<;>simp
theorem CZ.zero{g:ai}:CZ g (List.replicate g.au false) (List.replicate g.au (List.replicate g.ae false)):=by
 refine⟨λn h=>absurd h iW,λn t h=>?_⟩;rw[No,No,S9] at h;split at h
 ·rw[<-No] at h;exact absurd h iW
 ·simp at h
theorem CZ.step{g:ai}{E:List Bool}{Fi:List (List Bool)}{r:bW}(hr:r∈g.rules)(h:CZ g E Fi){E':List Bool}(hE':E'=E\/(E'=E.set r.left true/\(ofRow E Fi (List.replicate g.ae false) r.right).2=true)) :
  CZ g E' (Fi.set r.left (aC (Fi.getD r.left []) (ofRow E Fi (List.replicate g.ae false) r.right).1)):=by
 obtain⟨h1,h2⟩:=oC h r.right (List.replicate g.ae false);refine⟨λn hn=>?_,λn t hn=>?_⟩
 ·rcases hE' with rfl | ⟨rfl,he⟩
  ·exact h.1 n hn
  ·rcases si hn with rfl | h3
   ·exact .of hr (h2 he)
   ·exact h.1 n h3
 ·by_cases e:n=r.left
  ·subst e;rw[No (l:=Fi.set _ _),Ua] at hn;rw[By rfl] at hn;split at hn
   ·rw[Option.getD_some] at hn;rcases pt hn with h3 | h3
    ·exact h.2 _ _ h3
    ·rcases h1 t h3 with h4 | h4
     ·exact absurd h4 iW
     ·exact .of hr h4
   ·simp at hn
  ·rw[No (l:=Fi.set _ _),SD (λe2=>e e2.symm),<-No] at hn;exact h.2 n t hn
section
variable {g:ai}{E:List Bool}{Fi:List (List Bool)}
theorem zE(hrow:∀n,n<g.au->(Fi.getD n []).length=g.ae):∀(l:List Sym) (out:List Bool),(∀s∈l,ck g.ae g.au s)->out.length=g.ae->(ofRow E Fi out l).1.length=g.ae
 | [],out,_,h=>h
 | s::l,out,hs,h=>by
  unfold ofRow;split
  ·rw[U6];exact h
  ·rename_i ht;have hn:s.n<g.au:=by have:=hs s me;unfold ck at this;rw[AT ht] at this;exact this
   have h2:(aC out (Fi.getD s.n [])).length=g.ae:=by rw[gu (by rw[h,hrow _ hn])];exact h
   split
   ·exact zE hrow l _ (λx hx=>hs x (If _ hx)) h2
   ·exact h2
theorem xj(hrow:∀n,n<g.au->(Fi.getD n []).length=g.ae){t:Nat}:∀(l:List Sym) (out:List Bool),(∀s∈l,ck g.ae g.au s)->out.length=g.ae->out.getD t false=true->(ofRow E Fi out l).1.getD t false=true
 | [],out,_,_,h=>h
 | s::l,out,hs,hl,h=>by
  unfold ofRow;split
  ·rw[No,Ua];split
   ·split
    ·rfl
    ·rename_i h1 h2;subst h1;rw[No,R3 zo] at h;simp at h
   ·rw[<-No];exact h
  ·rename_i ht;have hn:s.n<g.au:=by have:=hs s me;unfold ck at this;rw[AT ht] at this;exact this
   have h2:(aC out (Fi.getD s.n [])).length=g.ae:=by rw[gu (by rw[hl,hrow _ hn])];exact hl
   have h3:(aC out (Fi.getD s.n [])).getD t false=true:=jf (by rw[hl,hrow _ hn]) (.inl h);split
   ·exact xj hrow l _ (λx hx=>hs x (If _ hx)) h2 h3
   ·exact h3
theorem ql:∀(l:List Sym) (out:List Bool),(∀s∈l,s.term=false/\E.getD s.n false=true)->(ofRow E Fi out l).2=true
 | [],_,_=>rfl
 | s::l,out,h=>by
  obtain⟨h1,h2⟩:=h s me;unfold ofRow;rw[AT (by rw[h1];simp),By h2];exact ql l _ λx hx=>h x (If _ hx)
theorem sY(hrow:∀n,n<g.au->(Fi.getD n []).length=g.ae){t:Nat}{s:Sym}{post:List Sym}(hs:(s=⟨true,t⟩)\/(s.term=false/\(Fi.getD s.n []).getD t false=true)) :
  ∀(pre:List Sym) (out:List Bool),(∀x∈pre++s::post,ck g.ae g.au x)->out.length=g.ae->(∀x∈pre,x.term=false/\E.getD x.n false=true)->(ofRow E Fi out (pre++s::post)).1.getD t false=true
 | [],out,hok,hl,_=>by
  have hso:=hok s (SC _ me);rcases hs with rfl | ⟨h1,h2⟩
  ·show (ofRow E Fi out (⟨true,t⟩::post)).1.getD t false=true;unfold ofRow;rw[By rfl];have ht:t<g.ae:=hso;show (out.set t true).getD t false=true;rw[No,Sc zo];rfl
  ·have hn:s.n<g.au:=by unfold ck at hso;rw[AT (by rw[h1];simp)] at hso;exact hso
   show (ofRow E Fi out (s::post)).1.getD t false=true;unfold ofRow;rw[AT (by rw[h1];simp)];have h3:(aC out (Fi.getD s.n [])).length=g.ae:=by rw[gu (by rw[hl,hrow _ hn])];exact hl
   have h4:(aC out (Fi.getD s.n [])).getD t false=true:=jf (by rw[hl,hrow _ hn]) (.inr h2);split
   ·exact xj hrow post _ (λx hx=>hok x (SC _ (If _ hx))) h3 h4
   ·exact h4
 | x::pre,out,hok,hl,hp=>by
  obtain⟨h1,h2⟩:=hp x me;have hxo:=hok x me;have hn:x.n<g.au:=by unfold ck at hxo;rw[AT (by rw[h1];simp)] at hxo;exact hxo
  show (ofRow E Fi out (x::(pre++s::post))).1.getD t false=true;unfold ofRow;rw[AT (by rw[h1];simp),By h2];exact sY hrow hs pre _ (λy hy=>hok y (If _ hy)) (by rw[gu (by rw[hl,hrow _ hn])];exact hl) λy hy=>hp y (If _ hy)
theorem wT(hc:eG g E Fi){n:Nat}(h:HD g n):E.getD n false=true:=by
 induction h with
 | mk hr h1 h2 ih=>exact(hc _ hr).2 (ql _ _ λs hs=>⟨h1 s hs,ih s hs⟩)
theorem v8(hg:Valid g)(hc:eG g E Fi)(hrow:∀n,n<g.au->(Fi.getD n []).length=g.ae){t:Nat}:∀{r:bW} {pre post:List Sym} {s:Sym},r∈g.rules->r.right=pre++s::post->gP g pre->((s=⟨true,t⟩)\/(s.term=false/\(Fi.getD s.n []).getD t false=true))->(Fi.getD r.left []).getD t false=true:=by
 intro r pre post s hr e hn hs;obtain⟨hrl,_,hok⟩:=hg.right r hr;rw[e] at hok;have h1:=sY (E:=E) hrow (post:=post) hs pre (List.replicate g.ae false) hok (by simp) (λx hx=>⟨(hn x hx).1,wT hc (hn x hx).2⟩);have h2:=zE (E:=E) hrow (pre++s::post) (List.replicate g.ae false) hok (by simp);have h3:=(hc r hr).1;rw[e] at h3;rw[<-h3];exact jf (by rw[h2,hrow _ hrl]) (.inr h1)
theorem D9(hg:Valid g)(hc:eG g E Fi)(hrow:∀n,n<g.au->(Fi.getD n []).length=g.ae){n t:Nat}(h:Fg g n t):(Fi.getD n []).getD t false=true:=by
 induction h with
 | term hr e hn=>exact v8 hg hc hrow hr e hn (.inl rfl)
 | JD hr e hn _ ih=>exact v8 hg hc hrow hr e hn (.inr ⟨rfl,ih⟩)
structure DY(g:ai)(E:List Bool)(Fi:List (List Bool)):Prop where
 QQ:E.length=g.au
 P0:Fi.length=g.au
 row:∀r∈Fi,r.length=g.ae
 O2:∀n,E.getD n false=true↔HD g n
 DA:∀n t,(Fi.getD n []).getD t false=true↔Fg g n t
theorem DY.rows(h:DY g E Fi):∀n,n<g.au->(Fi.getD n []).length=g.ae:=λn hn=>by
 have:=gE (show n<Fi.length by rw[h.P0];exact hn);rw[No,this];exact h.row _ (TK _)
theorem DY.list(h:DY g E Fi){l:List Sym}(hl:∀s∈l,ck g.ae g.au s):(∀t,(ofRow E Fi (List.replicate g.ae false) l).1.getD t false=true↔dq g l t)/\((ofRow E Fi (List.replicate g.ae false) l).2=true↔gP g l):=by
 obtain⟨h1,h2⟩:=oC (E:=E) (Fi:=Fi) ⟨λn hn=>(h.O2 n).1 hn,λn t ht=>(h.DA n t).1 ht⟩ l (List.replicate g.ae false);refine⟨λt=>⟨λht=>(h1 t ht).resolve_left iW,λht=>?_⟩,h2,λhn=>ql _ _ λs hs=>⟨(hn s hs).1,(h.O2 _).2 (hn s hs).2⟩⟩;obtain⟨pre,s,post,rfl,hn,h3⟩:=ht;exact sY h.rows (h3.imp id λh4=>⟨h4.1,(h.DA _ _).2 h4.2⟩) pre _ hl (by simp) λx hx=>⟨(hn x hx).1,(h.O2 _).2 (hn x hx).2⟩
end
theorem D5(F:ar)(g:ai)(hg:Valid g){a:Option Addr}{m c:Nat}(hr:bj cC F a m c g.rules) :
  Abs.Spec CC 131 [.agg ⟨ak g a m c⟩] F [] λF' v o=>o=[]/\∃is E Fi,v=.pointer (some ⟨is,0,none⟩)/\wL F' is g a m c E Fi/\DY g E Fi:=
 (EG F g hg (CZ g) CZ.zero (λE Fi r hm h E' hE'=>h.step hm hE') hr).mono λF' v o _ ⟨h1,is,E,Fi,h2,h3,h4,h5,h6⟩=>by
  refine⟨h1,is,E,Fi,h2,h3,h5,h6,h3.row,λn=>⟨h4.1 n,wT h3.closed⟩,λn t=>⟨h4.2 n t,D9 hg h3.closed λk hk=>?_⟩⟩;have:=gE (show k<Fi.length by rw[h6];exact hk);rw[No,this];exact h3.row _ (TK _)
end Go.Proofs.D
set_option linter.unusedVariables false
set_option maxRecDepth 20000
set_option maxHeartbeats 0
open Go Go.Abs Go.Proofs Go.Proofs.D
namespace Go.Abs
section
variable {C:Ctx}{T:RT}{t:TypeId}{κ:Type}[DecidableEq κ](K:oF C t κ)
variable {n:Nat}{k:bC}{F:ar}{own:bh}{ops rest:List Oper}{o:Oper}{Q:bC->ar->bh->List Rec->Prop}
end
end Go.Abs
namespace Go.Proofs.D
theorem yd(F:ar)(g:ai)(hg:Valid g){a:Option Addr}{m c:Nat}(hr:bj cC F a m c g.rules)(x:Nat)(hx:x<=g.rules.length) :
  Abs.Spec CC 144 [.agg ⟨ak g a m c⟩,.int .i64 x] F [] λF' v o=>o=[]/\∃b n d,v=.slice b n d/\bj fh F' b n d (bg g x):=by
 have hml:=hr.len;have hgr:=hg.range.rules;unfold ak;refine Abs.Spec.fn (n:=32) Tryz.func144 rfl rfl λown=>?_;refine AW.seq (AW.dp ?_);refine WT.cy Z Z Z Z Z Z (λi2 hi2=>?_);refine aw ?_;refine AW.block ?_;refine aw ?_;refine AW.cond Z (λh=>?_) (λh=>?_)
 ·have h:x=g.rules.length:=by simp at h;omega
  refine aw ?_;refine WT.a6 Tryz.func84 Z Z Z Z Z Z (va _ _) (λv hv=>?_);subst hv;refine WT.be hT Z Z Z Z Z Z Z Z Z Z Z Z Z Z (λi5 hi5=>?_);refine aw ?_;refine AW.ay 0 Z Z (λF2 hF2 hB2=>?_);have hb:dR fh F (some ⟨i5,0,none⟩) 1 2 [(i5,.cells false [.bool false,.int .i64 g.start])] [⟨false,g.start⟩]:=⟨rfl,.inr ⟨i5,_,rfl,rfl,rfl,aH.single (R:=fh) (x:=⟨false,g.start⟩) rfl,by decide⟩⟩;refine AW.ret ⟨_,[],⟨_,_,rfl,rfl,rfl⟩,bY,rfl,_,_,_,rfl,?_⟩;rw[h,iA];exact hb.frozen hF2 hB2
 ·have h:x<m:=by simp at h;omega
  refine aw ?_;refine AW.cond Z (λh=>(by simp at h;omega)) (λ_=>?_);refine aw ?_;refine WT.bG hT hr Z Z Z Z Z Z Z Z Z zo (λr hrx b5 off5 ro5 cs5 lx5 hb5 hp5 hrel5=>?_);obtain⟨ra,rn,rc,rfl,hra⟩:=hrel5;have hral:=hra.len;have hr4:=(hg.right r (gM hrx)).2.1;refine aw ?_;refine WT.wQ Tryz.func107 Z Z Z Z Z Z (yj _ hra zo) (λF2 v B2 hF2 hv=>?_);obtain⟨ca,cc,rfl,hv⟩:=hv;refine aw ?_;refine AW.ay 0 Z Z (λF3 hF3 hB3=>?_);refine AW.ret ⟨_,[],⟨_,_,rfl,rfl,rfl⟩,bY,rfl,_,_,_,rfl,?_⟩;rw[cD hrx];exact hv.arr hF3 hB3
theorem M3(p q:Lr):(((p.az:Int)==(q.az:Int))&&(((p.dot:Int)==(q.dot:Int))&&true))=decide (p=q):=by
 rw[Ta];obtain⟨a,b⟩:=p;obtain⟨a',b'⟩:=q;simp only[IN,SK,Su,Lr.mk.injEq,UP];omega
noncomputable def lQ:oF CC 181 Lr where
 key:=λx=>.agg ⟨[.int .i64 x.az,.int .i64 x.dot]⟩
 ok:=λp=>vg hT 8 _ _ rfl
 eq:=λp q=>by
  have h:uA CC 8 181 (.agg ⟨[.int .i64 p.az,.int .i64 p.dot]⟩) (.agg ⟨[.int .i64 q.az,.int .i64 q.dot]⟩)=some (decide (p=q)):=by
   rw[<-M3];exact wC hT 8 _ _ _ _ rfl
  by_cases e:p=q
  ·exact .inl ⟨e,by rw[h];simp[e]⟩
  ·exact .inr ⟨e,by rw[h];simp[e]⟩
def Km(es:cQ Lr)(x:Lr):Value:=(Abs.look es x).getD (.int .u32 0)
def O3(es:cQ Lr)(x:Lr):Value:=(Abs.look es x).getD (.bool false)
noncomputable def bM(g:ai)(x:Lr):Nat:=bH (dq g (cI g x)) g.ae
noncomputable def eM(g:ai)(x:Lr):Bool:=@decide (gP g (cI g x)) (Classical.propDecidable _)
structure wY(F:ar)(im:Nat)(g:ai)(ra:Option Addr)(rm rc:Nat)(E:List Bool)(Fi:List (List Bool))(is:Nat)(eb ee:cQ Lr):Prop where
 bu:∃ib ie ro,F im=some (.cells ro [.int .i64 g.ae,.int .i64 g.au,.int .i64 g.start,.slice ra rm rc,.pointer (some ⟨is,0,none⟩),.map (some ib),.map (some ie)])/\F ib=some (.map (aG lQ eb))/\F ie=some (.map (aG lQ ee))
 sD:wL F is g ra rm rc E Fi
 OV:DY g E Fi
 DA:∀x y,aQ g x=some y->Km eb x=.int .u32 (bM g x:Nat)
 O2:∀x y,aQ g x=some y->O3 ee x=.bool (eM g x)
structure Qr where
 eb:cQ Lr
 ee:cQ Lr
def qP(g:ai)(r d:Nat)(x:Lr):Prop:=(x.az<r/\x.dot<(bg g x.az).length)\/(x.az=r/\x.dot<d)
def OG(g:ai)(D:Lr->Prop)(eb ee:cQ Lr):Prop:=∀x,(D x->Km eb x=.int .u32 (bM g x:Nat)/\O3 ee x=.bool (eM g x))/\(¬D x->Km eb x=.int .u32 0)
theorem OG.congr{g:ai}{D D':Lr->Prop}{eb ee:cQ Lr}(h:OG g D eb ee)(hD:∀x,D x↔D' x):OG g D' eb ee:=λx=>⟨λh1=>(h x).1 ((hD x).2 h1),λh1=>(h x).2 λh2=>h1 ((hD x).1 h2)⟩
theorem Bj(es:cQ Lr)(k x:Lr)(v:Value):Km (dC es k v) x=if x=k then v else Km es x:=by
 unfold Km;rw[gf];split<;>rfl
theorem Dd(es:cQ Lr)(k x:Lr)(v:Value):O3 (dC es k v) x=if x=k then v else O3 es x:=by
 unfold O3;rw[gf];split<;>rfl
theorem wx{x t:Nat}(h:x<2 ^ t):x ||| 1*2 ^ t=x+2 ^ t:=by
 have:=Nat.two_pow_add_eq_or_of_lt h 1;rw[Sy] at this;rw[S7,Nat.or_comm,<-this,Ud]
theorem wL.mono{F G:ar}{is:Nat}{g:ai}{ra:Option Addr}{rm rc:Nat}{E:List Bool}{Fi:List (List Bool)}(h:wL F is g ra rm rc E Fi)(hF:ar.le F G):wL G is g ra rm rc E Fi:=by
 obtain⟨ie,io,ce,co,ro,h1,h2,h3⟩:=h.bu;exact⟨⟨ie,io,ce,co,ro,hF _ _ h1,h2.mono hF,h3.mono hF⟩,h.row,h.rules.mono hF,h.closed⟩
theorem yp(F:ar)(g:ai)(hg:Valid g){a:Option Addr}{m c:Nat}(hr:bj cC F a m c g.rules) :
  Abs.Spec CC 95 [.agg ⟨ak g a m c⟩] F [] λF' v o=>o=[]/\∃im E Fi is eb ee,v=.pointer (some ⟨im,0,none⟩)/\wY F' im g a m c E Fi is eb ee:=by
 have hrl:=hr.len;have hgr:=hg.range.rules;have hgt:=hg.range.ae;have hgn:=hg.range.au;unfold ak;refine Abs.Spec.fn (n:=78) Tryz.func95 rfl rfl λown=>?_;refine AW.seq (AW.dp ?_);refine WT.cy Z Z Z Z Z Z (λi1 hi1=>?_);refine aw ?_;refine AW.draw (ps:=[(0,2),(0,3),(0,4),(1,3),(1,4)]) Z Z ?_;refine aw ?_;have hmk:=D5 F g hg hr;unfold ak at hmk;refine WT.cO Tryz.func131 Z Z Z Z Z Z hmk (λF1 v hF1 hv=>?_);obtain⟨is,E,Fi,rfl,hS,hFS⟩:=hv;refine WT.makeMap Z Z Z Z (λib hib=>?_);refine WT.makeMap Z Z Z Z (λie hie=>?_);refine aw ?_
 refine WT.cy Z Z Z Z Z Z (λim him=>?_);refine aw ?_;refine⟨oY,?_⟩;refine aw ?_;refine AW.range (S:=Qr) (λ_=>[]) (λs=>[(im,.cells false [.int .i64 g.ae,.int .i64 g.au,.int .i64 g.start,.slice a m c,.pointer (some ⟨is,0,none⟩),.map (some ib),.map (some ie)])]::[(ie,.map (aG lQ s.ee))]::[(ib,.map (aG lQ s.eb))]::[(i1,.cells false [.int .i64 g.ae,.int .i64 g.au,.int .i64 g.start,.slice a m c])]::own)
  (λj s G=>OG g (qP g j 0) s.eb s.ee) (m+1) ⟨[],[]⟩
  Z Z Z Z Z Z Z Z Z zo rfl rfl (λ_=>rfl) (λ_=>rfl) sM oR (λx=>⟨λh=>(by unfold qP at h;omega),λ_=>rfl⟩) ?_ ?_
 ·intro j s F2 hF2 hj hI;have hr2:=(hr.mono hF1).mono hF2;refine aw ?_;have hrt:=yd F2 g hg hr2 j zo;unfold ak at hrt;refine WT.cO Tryz.func144 Z Z Z Z Z Z hrt (λF3 v hF3 hv=>?_);obtain⟨ya,yn,yc,rfl,hy⟩:=hv;have hyl:=hy.len;have hyok:=tL hg j;have hy4:(bg g j).length<=4:=by
   unfold bg;split
   ·simp
   ·cases hq:g.rules[j]? with
    | none=>simp
    | some r=>exact(hg.right r (gM hq)).2.1
  refine aw ?_;refine AW.range (S:=Qr) (λ_=>[]) (λs=>[(im,.cells false [.int .i64 g.ae,.int .i64 g.au,.int .i64 g.start,.slice a m c,.pointer (some ⟨is,0,none⟩),.map (some ib),.map (some ie)])]::[(ie,.map (aG lQ s.ee))]::[(ib,.map (aG lQ s.eb))]::[(i1,.cells false [.int .i64 g.ae,.int .i64 g.au,.int .i64 g.start,.slice a m c])]::own)
   (λe s G=>OG g (qP g j e) s.eb s.ee) yn s
   Z Z Z Z Z Z Z Z Z zo rfl rfl (λ_=>rfl) (λ_=>rfl) sM oR hI ?_ ?_
  ·intro e s F4 hF4 he hI;have hy4':=hy.mono hF4;have hF14:=(hF2.trans hF3).trans hF4;refine aj ?_;obtain⟨ra,rc,hrs,hra⟩:=hy4'.slice (C:=CC) (lo:=e+1) (hi:=yn) zo (AS _) hT (t:=87) Z Z Z (some (.int .i64 ((e+1:Nat):Int))) none (by simp[db];omega) rfl;refine WT.slice Z Z Z Z Z Z Z Z hrs ?_;rw[RN zo] at hra;have hS4:=hS.bu;obtain⟨ie0,io0,ce0,co0,ro0,hb0,hE0,hFi0⟩:=hS4;have hlst:=hFS.list (l:=(bg g j).drop (e+1)) (λy hy=>hyok y (TY hy))
   refine WT.wQ Tryz.func133 Z Z Z Z Z Z (xm F4 (hF14 _ _ hb0) (hE0.mono hF14) (hFi0.mono hF14) hS.row zo hra zo (λy hy=>hyok y (TY hy))) (λF5 v B5 hF5 hv=>?_);obtain⟨ir,rfl,hrl5,rfl⟩:=hv;refine WT.ay 0 Z Z (λF6 hF6 hB6=>?_);have hrow:bj fv F6 (some ⟨ir,0,none⟩) g.ae (if g.ae=0 then 0 else 1) (ofRow E Fi (List.replicate g.ae false) ((bg g j).drop (e+1))).1:=by
    have:=dS (K:=aO) (R:=fv) (F:=F6) (id:=ir) (row:=(ofRow E Fi (List.replicate g.ae false) ((bg g j).drop (e+1))).1) (c:=if (ofRow E Fi (List.replicate g.ae false) ((bg g j).drop (e+1))).1.length=0 then 0 else 1) (ro:=false) rfl (λ_ _=>rfl) rfl (hB6 ir _ me);rw[hrl5] at this;exact this
   have hrest:(bg g j).drop (e+1)=cI g ⟨j,e⟩:=rfl;rw[hrest] at hlst hrow hrl5 ⊢;generalize ofRow E Fi (List.replicate g.ae false) (cI g ⟨j,e⟩)=fr at hlst hrow hrl5 ⊢;obtain⟨row,emp⟩:=fr;dsimp only at hlst hrow hrl5;have hx0:Km s.eb ⟨j,e⟩=.int .u32 0:=(hI ⟨j,e⟩).2 (by unfold qP;dsimp only;omega);refine aj ?_;refine WT.aK hT Z Z Z Z Z Z (λi9 hi9=>?_);refine aj ?_
   refine AW.range (S:=cQ Lr) (λ_=>[]) (λeb=>[(i9,.cells false [.int .i64 j,.int .i64 e])]::[]::[(im,.cells false [.int .i64 g.ae,.int .i64 g.au,.int .i64 g.start,.slice a m c,.pointer (some ⟨is,0,none⟩),.map (some ib),.map (some ie)])]::[(ie,.map (aG lQ s.ee))]::[(ib,.map (aG lQ eb))]::[(i1,.cells false [.int .i64 g.ae,.int .i64 g.au,.int .i64 g.start,.slice a m c])]::own)
    (λt eb G=>(∀x,x≠⟨j,e⟩->Km eb x=Km s.eb x)/\Km eb ⟨j,e⟩=.int .u32 (bH (dq g (cI g ⟨j,e⟩)) t:Nat)) g.ae s.eb
    Z Z Z Z Z Z Z Z Z zo rfl rfl (λ_=>rfl) (λ_=>rfl) sM oR ⟨λ_ _=>rfl,hx0⟩ ?_ ?_
   ·intro t eb F7 hF7 ht hI2;obtain⟨hoth,hcur⟩:=hI2;have hrow7:=hrow.mono hF7;refine aj ?_;refine WT.bG hT hrow7 Z Z Z Z Z Z Z Z Z zo (λok hok b5 off5 ro5 cs5 lx5 hb5 hp5 hrel5=>?_);obtain rfl:lx5=_:=hrel5;have hbit:ok=true↔dq g (cI g ⟨j,e⟩) t:=by
     rw[<-hlst.1 t,No,hok];rfl
    refine aj ?_;refine AW.cond Z (λh=>?_) (λh=>?_)
    ·have hbg:=hbit.1 h;have hlt:=jX (dq g (cI g ⟨j,e⟩)) t;have hnew:bH (dq g (cI g ⟨j,e⟩)) (t+1)=bH (dq g (cI g ⟨j,e⟩)) t+2 ^ t:=by
      show _+(if _ then 2 ^ t else 0)=_;rw[By (@decide_eq_true _ (Classical.propDecidable _) hbg)]
     refine AW.draw (ps:=[(5,9),(8,9)]) Z Z ?_;refine aj ?_;refine WT.JT lQ hT 4 (m:=eb) (key:=⟨j,e⟩) Z Z Z Z Z Z Z me Z Z Z ?_;refine WT.jB (v':=.int .u32 (bH (dq g (cI g ⟨j,e⟩)) t:Nat)) 62 Z (by exact hcur) ?_;refine aj ?_;have hp8:2 ^ t<=256:=AI (RS (by decide) (show t<=8 by omega)) (by decide);refine WT.Bu (x:=1) (y:=t) Z Z Z Z Z Z zo zo ?_;refine WT.EF (x:=bH (dq g (cI g ⟨j,e⟩)) t) (y:=1*2 ^ t) Z Z Z Z Z Z zo zo ?_;refine WT.jB (v':=.int .u32 (bH (dq g (cI g ⟨j,e⟩)) (t+1):Nat)) 65 Z (by rw[hnew,wx hlt]) ?_
     refine WT.mapEntry lQ hT 4 0 (m:=eb) (key:=⟨j,e⟩) Z Z Z Z Z Z Z Z Z Z Z Z Z ?_;refine aj ?_;refine WT.entryStore lQ 4 0 (m:=my eb ⟨j,e⟩ (.int .u32 0)) (key:=⟨j,e⟩) Z Z Z Z (by rw[zy];rfl) Z Z Z (zD _ _ _) Z Z ?_;rw[yN];refine aj ?_;refine⟨Gy rfl rfl (by decide) (λh2 s2=>nN lQ hT (m2:=my eb ⟨j,e⟩ (.int .u32 0)) Z Z Z Z Z Z (s2.has (p:=4) rfl me) (by rw[zD];rfl)) (sW rfl rfl I0 trivial),?_⟩;refine⟨dC eb ⟨j,e⟩ (.int .u32 (bH (dq g (cI g ⟨j,e⟩)) (t+1):Nat)),sM,dH,λx hx=>?_,?_⟩
     ·rw[Bj,AT hx];exact hoth x hx
     ·rw[Bj,By rfl]
    ·have hno:¬dq g (cI g ⟨j,e⟩) t:=λh2=>by rw[hbit.2 h2] at h;cases h
     refine aj ?_;refine⟨eb,sM,dH,hoth,?_⟩;rw[hcur];show _=Value.int .u32 ((_+(if _ then 2 ^ t else 0):Nat):Int);rw[AT (λh2=>hno (@of_decide_eq_true _ (Classical.propDecidable _) h2)),Tq]
   ·intro eb F7 hF7 hI2;obtain⟨hoth,hcur⟩:=hI2;refine aj ?_;refine WT.oh lQ hT 3 0 (m:=s.ee) (key:=⟨j,e⟩) Z Z Z Z Z Z Z Z Z Z Z Z ?_;refine aj ?_;refine⟨⟨eb,dC s.ee ⟨j,e⟩ (.bool emp)⟩,sM,dH,λx=>?_⟩;have hemp:emp=eM g ⟨j,e⟩:=by
     unfold eM;cases emp with
     | true=>exact(@decide_eq_true _ (Classical.propDecidable _) (hlst.2.1 rfl)).symm
     | false=>exact(@decide_eq_false _ (Classical.propDecidable _) (λh=>by have:=hlst.2.2 h;cases this)).symm
    by_cases hx:x=⟨j,e⟩
    ·subst hx;refine⟨λ_=>⟨hcur,?_⟩,λh=>absurd (.inr ⟨rfl,Td _⟩) h⟩;rw[Dd,By rfl,hemp]
    ·obtain⟨h1,h2⟩:=hI x;have hD:qP g j (e+1) x↔qP g j e x:=by
      obtain⟨xr,xd⟩:=x;unfold qP;simp only[Lr.mk.injEq,not_and] at hx;constructor
      ·rintro(h | ⟨h3,h4⟩)
       ·exact .inl h
       ·exact .inr ⟨h3,by have:=hx h3;have h4:xd<e+1:=h4;show xd<e;omega⟩
      ·rintro(h | ⟨h3,h4⟩)
       ·exact .inl h
       ·exact .inr ⟨h3,by dsimp only at h4 ⊢;omega⟩
     refine⟨λh=>?_,λh=>?_⟩
     ·obtain⟨h3,h4⟩:=h1 (hD.1 h);refine⟨by rw[hoth x hx];exact h3,?_⟩;rw[Dd,AT hx];exact h4
     ·rw[hoth x hx];exact h2 λh3=>h (hD.2 h3)
  ·intro s F4 hF4 hI;refine⟨s,sM,dH,hI.congr λx=>?_⟩;unfold qP;constructor
   ·rintro(⟨h1,h2⟩ | ⟨h1,h2⟩)
    ·exact .inl ⟨by omega,h2⟩
    ·exact .inl ⟨by omega,by rw[h1];omega⟩
   ·rintro(⟨h1,h2⟩ | ⟨h1,h2⟩)
    ·by_cases h3:x.az<j
     ·exact .inl ⟨h3,h2⟩
     ·obtain h3:x.az=j:=by omega
      exact .inr ⟨h3,by rw[h3] at h2;omega⟩
    ·omega
 ·intro s F2 hF2 hI;refine aj ?_;refine AW.ay 0 Z Z (λF3 hF3 hB3=>?_);refine AW.ay 1 Z Z (λF4 hF4 hB4=>?_);refine AW.ay 2 Z Z (λF5 hF5 hB5=>?_);have hdone:∀x y,aQ g x=some y->qP g (m+1) 0 x:=λx y h=>by
   rw[bV] at h;have h2:=(gS h).1;refine .inl ⟨?_,h2⟩;rcases R2 g.rules.length x.az with h3 | h3
   ·unfold bg at h2;rw[AT zo,R3 (l:=g.rules) (i:=x.az) zo] at h2;simp at h2
   ·omega
  have hF25:=((hF2.trans hF3).trans hF4).trans hF5;refine AW.ret ⟨_,[],⟨_,_,rfl,rfl,rfl⟩,bY,rfl,im,E,Fi,is,s.eb,s.ee,rfl,⟨ib,ie,false,hF5 _ _ (hF4 _ _ (hB3 im _ me)),hB5 ib _ me,hF5 _ _ (hB4 ie _ me)⟩,hS.mono hF25,hFS,λx y h=>((hI x).1 (hdone x y h)).1,λx y h=>((hI x).1 (hdone x y h)).2⟩
theorem tM{g:ai}(ht:g.ae<=8):2 ^ (g.ae+1)<=512:=AI (RS (by decide) (show g.ae+1<=9 by omega)) (by decide)
structure RE where
 a:Option Addr
 m:Nat
 c:Nat
 B:List (Nat×aE)
 es:cQ Lr
theorem wY.mono{F G:ar}{im is:Nat}{g:ai}{a:Option Addr}{m c:Nat}{E:List Bool}{Fi:List (List Bool)}{eb ee:cQ Lr}(h:wY F im g a m c E Fi is eb ee)(hF:ar.le F G):wY G im g a m c E Fi is eb ee:=by
 obtain⟨ib,ie,ro,h1,h2,h3⟩:=h.bu;exact⟨⟨ib,ie,ro,hF _ _ h1,hF _ _ h2,hF _ _ h3⟩,h.sD.mono hF,h.OV,h.DA,h.O2⟩
structure Rv where
 es:cQ Lr
 S:Lr->Nat
 again:Bool
noncomputable def Ml(g:ai)(st:List bQ)(y:Sym):Option (List bQ):=if ju g st y=[] then none else some (dx g (ju g st y))
structure Rn where
 a:Option Addr
 m:Nat
 c:Nat
 B:List (Nat×aE)
 l:List bQ
def NL(l:List bQ):List Value:=(l.map Qx).flatten
structure LT(vs:List Value)(bs:List (Nat×aE))(L:List (List bQ)):Prop where
 QU:vs.length=L.length
 Ra:bs.length=L.length
 at_:∀k l,L[k]?=some l->∃id,vs[0+k*1]?=some (.slice (some ⟨id,0,none⟩) l.length 3)/\bs[k]?=some (id,.cells false (NL l))
structure Rw where
 cur:List bQ
 ch:Bool
def gY(n:Nat)(ys:List Bool):List Bool:=ys++List.replicate (n-ys.length) false
theorem kA{n:Nat}{ys:List Bool}(h:ys.length<=n):(gY n ys).length=n:=by unfold gY;simp;omega
theorem Bn{n:Nat}{ys:List Bool}{t:Nat}:(gY n ys).getD t false=ys.getD t false:=by
 unfold gY;rw[No,No,List.getElem?_append];split
 ·rfl
 ·rename_i h;rw[R3 (l:=ys) zo,S9];split<;>rfl
theorem Jc{xs ys:List Bool}(h:ys.length<=xs.length):pA ys.length xs (gY xs.length ys)=aC xs (gY xs.length ys):=by
 rw[<-CA (kA h).symm];have:∀k,ys.length+k<=xs.length->pA (ys.length+k) xs (gY xs.length ys)=pA ys.length xs (gY xs.length ys):=by
  intro k
  induction k with
  | zero=>intro _;rfl
  | succ k ih=>
   intro hk;have hx:=gE (show ys.length+k<xs.length by omega);have hy:(gY xs.length ys)[ys.length+k]?=some false:=by
    unfold gY;rw[Sj zo,S9,By zo]
   rw[show ys.length+(k+1)=ys.length+k+1 by omega,tU (kA h).symm hx hy,ih zo,Bool.or_false];rw[<-ih zo];apply SA;intro i;by_cases hi:i=ys.length+k
   ·subst hi;rw[Sc (by rw[vB (kA h).symm];omega),sF (kA h).symm hx]
   ·rw[SD zo]
 have:=this (xs.length-ys.length) zo;rw[show ys.length+(xs.length-ys.length)=xs.length by omega] at this;exact this.symm
theorem C8(F:ar){it:Nat}{xs ys:List Bool}{b:Option Addr}{m n c d:Nat}(hm:m=xs.length)(hy:bj fv F b n d ys)(hlen:ys.length<=xs.length)(hn:n<=1000000) :
  Abs.Spec CC 134 [.slice (some ⟨it,0,none⟩) m c,.slice b n d] F [[(it,.cells false (xs.map aO.cell))]] λ_ v o=>∃B',o=[B']/\B'=[(it,.cells false ((aC xs (gY xs.length ys)).map aO.cell))]/\v=.bool (decide (aC xs (gY xs.length ys)≠xs)):=by
 have hylen:=hy.len;have hpl:=(kA hlen).symm;have hopad:=Jc hlen;have hpat:∀(j:Nat) (y:Bool),ys[j]?=some y->(gY xs.length ys)[j]?=some y:=λj y h=>by
  unfold gY;rw[RW (gS h).1];exact h
 generalize gY xs.length ys=zs at hpl hopad hpat;refine Abs.Spec.fn (n:=28) Tryz.func134 rfl rfl λown=>?_;refine aj ?_;refine AW.range (S:=US) (λs=>[(5,.bool s.ch)]) (λs=>[(it,.cells false (s.cur.map aO.cell))]::own) (λj s G=>s.cur=pA j xs zs/\s.ch=decide (s.cur≠xs)) n ⟨xs,false⟩ Z Z Z Z Z Z Z Z Z zo Z Z (λ_=>rfl) (λ_=>rfl) sM oR ⟨(zg xs zs).symm,by simp⟩ ?_ ?_
 ·intro j s F1 hF1 hj hP;obtain⟨hcur,hch⟩:=hP;have hy1:=hy.mono hF1;obtain⟨x,hx⟩:∃x,xs[j]?=some x:=⟨_,gE zo⟩;have hcl:s.cur.length=xs.length:=by rw[hcur];exact vB hpl
  have hcx:(s.cur.map aO.cell)[0+j*1]?=some (.bool x):=by rw[RY,Sy,RM,hcur,sF hpl hx];rfl
  refine aj ?_;refine WT.bG hT hy1 Z Z Z Z Z Z Z Z Z zo (λy hyj b1 off ro cs lx hb hp hrel=>?_);obtain rfl:lx=_:=hrel;have hnext:=tU hpl hx (hpat j y hyj);rw[<-hcur] at hnext;have same:(x||y)=x->s.cur.set j (x||y)=s.cur:=by
   intro e;rw[e];apply SA;intro i;by_cases hi:i=j
   ·subst hi;rw[Sc zo,hcur,sF hpl hx]
   ·rw[SD zo]
  refine aj ?_;refine WT.split 16 Z (λh=>?_) (λh=>?_)
  ·refine aj ?_;refine WT.eA (j:=j) (s:=1) hT Z Z Z Z Z Z Z Z Z zo ?_;refine WT.loadAt hT 0 Z Z Z Z Z Z me Z Z hcx ?_;refine aj ?_;refine AW.cond Z (λh2=>?_) (λh2=>?_)
   ·have h2:x=false:=by simpa using h2
    refine aj ?_;refine WT.eA (j:=j) (s:=1) hT Z Z Z Z Z Z Z Z Z zo ?_;refine WT.storeAt hT 0 0 Z Z Z Z Z Z Z Z Z Z (by simp;omega) Z Z ?_;refine aj ?_;refine⟨⟨s.cur.set j true,true⟩,sM,ah.flat ?_,?_,?_⟩
    ·dsimp only;rw[Tb,RY,Sy];exact NO _
    ·rw[hnext,h,h2];rfl
    ·have:s.cur.set j true≠xs:=by
      intro e;have this:(s.cur.set j true)[j]?=xs[j]?:=by rw[e]
      rw[Sc zo,hx,h2] at this;cases this
     simp[this]
   ·have h2:x=true:=by simpa using h2
    refine aj ?_;refine⟨s,sM,dH,?_,hch⟩;rw[hnext,same (by rw[h2];rfl)]
  ·refine aj ?_;refine AW.cond Z (λh2=>(by cases h2)) (λh2=>?_);refine aj ?_;refine⟨s,sM,dH,?_,hch⟩;rw[hnext,same (by rw[h];simp)]
 ·intro s F1 hF1 hP;obtain⟨hcur,hch⟩:=hP;rw[show n=ys.length by omega,hopad] at hcur;refine aj ?_;refine AW.ret ⟨_,[_],⟨_,_,rfl,rfl,rfl⟩,Sk _,_,rfl,by rw[<-hcur],?_⟩;rw[<-hcur,<-hch];rfl
theorem vM(F:ar){it:Nat}{xs:List Bool}{m c d:Nat}(hm:m=xs.length)(hn:m<=1000000) :
  Abs.Spec CC 134 [.slice (some ⟨it,0,none⟩) m c,.slice (some ⟨it,0,none⟩) m d] F [[(it,.cells false (xs.map aO.cell))]] λ_ v o=>∃B',o=[B']/\B'=[(it,.cells false (xs.map aO.cell))]/\v=.bool false:=by
 refine Abs.Spec.fn (n:=28) Tryz.func134 rfl rfl λown=>?_;refine aj ?_;refine AW.range (S:=Unit) (λs=>[(5,.bool false)]) (λs=>[(it,.cells false (xs.map aO.cell))]::own) (λj s G=>True) m () Z Z Z Z Z Z Z Z Z zo Z Z (λ_=>rfl) (λ_=>rfl) sM oR trivial ?_ ?_
 ·intro j s F1 hF1 hj hP;obtain⟨x,hx⟩:∃x,xs[j]?=some x:=⟨_,gE zo⟩;have hcx:(xs.map aO.cell)[0+j*1]?=some (.bool x):=by rw[RY,Sy,RM,hx];rfl
  refine aj ?_;refine WT.eA (j:=j) (s:=1) hT Z Z Z Z Z Z Z Z Z zo ?_;refine WT.loadAt hT 0 Z Z Z Z Z Z me Z Z hcx ?_;refine aj ?_;refine WT.split 16 Z (λh=>?_) (λh=>?_)
  ·refine aj ?_;refine WT.eA (j:=j) (s:=1) hT Z Z Z Z Z Z Z Z Z zo ?_;refine WT.loadAt hT 0 Z Z Z Z Z Z me Z Z hcx ?_;refine aj ?_;refine AW.cond Z (λh2=>?_) (λh2=>?_)
   ·have h2:x=false:=by simpa using h2
    rw[h2] at h;cases h
   ·refine aj ?_;exact⟨(),sM,dH,trivial⟩
  ·refine aj ?_;refine AW.cond Z (λh2=>(by cases h2)) (λh2=>?_);refine aj ?_;exact⟨(),sM,dH,trivial⟩
 ·intro s F1 hF1 hP;refine aj ?_;exact AW.ret ⟨_,[_],⟨_,_,rfl,rfl,rfl⟩,Sk _,_,rfl,rfl,rfl⟩
theorem uQ(F:ar)(x:Nat)(s:Value)(hs:∃a m c,s=.slice a m c) :
  Abs.Spec CC 218 [.agg ⟨[.int .i64 x,s]⟩] F [] λ_ v o=>o=[]/\v=.bool true:=by
 obtain⟨a,m,c,rfl⟩:=hs;refine Abs.Spec.fn (n:=3) Tryz.func218 rfl rfl λown=>?_;refine AW.seq (AW.dp ?_);refine WT.cy Z Z Z Z Z Z (λi3 hi3=>?_);refine aj ?_;exact AW.ret ⟨_,[],⟨_,_,rfl,rfl,rfl⟩,bY,rfl,rfl⟩
structure PH where
 O:List Bool
 again:Bool
def Md(O:List Bool)(r:bW):Prop:=O.getD r.left false=true->∀s∈r.right,s.term=false->O.getD s.n false=true
structure Ib(g:ai)(O:List Bool):Prop where
 len:O.length=g.au
 at_:∀n,O.getD n false=true↔y2 g n
theorem BR{l:List Bool}{n:Nat}(h:n<l.length):(l.set n true).getD n false=true:=by rw[No,Sc h];rfl
theorem IK{l:List Bool}{n t:Nat}(h:l.getD t false=true):(l.set n true).getD t false=true:=by
 rw[No] at h ⊢;rw[Ua];split
 ·split
  ·rfl
  ·rename_i h1 h2;subst h1;rw[R3 zo] at h;exact h
 ·exact h
theorem zX(F:ar)(g:ai)(hg:Valid g){a:Option Addr}{m c:Nat}(hr:bj cC F a m c g.rules) :
  Abs.Spec CC 217 [.agg ⟨ak g a m c⟩,.func (.func 218) ⟨[]⟩ ⟨[]⟩] F [] λF' v o=>o=[]/\∃a' c' O,v=.slice a' g.au c'/\bj fv F' a' g.au c' O/\Ib g O:=by
 unfold ak;have hrlen:=hr.len;have hgr:=hg.range.rules;have hgn:=hg.range.au;have hgs:=hg.range.start;refine Abs.Spec.fn (n:=63) Tryz.func217 rfl rfl λown=>?_;refine AW.seq (AW.dp ?_);refine WT.cy Z Z Z Z Z Z (λi2 hi2=>?_);refine aj ?_;refine WT.uw (l:=g.au) hT Z Z Z Z Z Z Z Z Z Z Z Z kF (λie hie=>?_);rw[nG];refine aj ?_;have hgst:g.start<g.au:=hgs;refine WT.eA (j:=g.start) (s:=1) hT Z Z Z Z Z Z Z Z Z hgst ?_;refine WT.storeAt hT 0 0 Z Z Z Z Z Z Z Z Z Z (by simp;omega) Z Z ?_;refine aj ?_;refine AW.block ?_
 refine AW.cm (S:=PH) (λt=>[(6,.bool t.again)]) (λt=>[(ie,.cells false (t.O.map aO.cell))]::[(i2,.cells false [.int .i64 g.ae,.int .i64 g.au,.int .i64 g.start,.slice a m c])]::own)
  (λt G=>t.O.length=g.au/\(∀n,t.O.getD n false=true->y2 g n)/\t.O.getD g.start false=true/\(t.again=false->∀r∈g.rules,Md t.O r)) (λt=>if t.again=true then 1+(g.au-fB t.O) else 0) ⟨(List.replicate g.au false).set g.start true,true⟩
  sM (ah.flat ?_) ⟨by simp,λn hn=>?_,BR (by simp;exact hgst),λh=>(by cases h)⟩ ?_
 ·dsimp only;rw[Tb,Uo,RY,Sy];exact NO _
 ·rcases si hn with rfl | h3
  ·exact .start
  ·exact absurd h3 iW
 intro t F2 hF2 hP;obtain⟨hl,hsnd,hst,hcl⟩:=hP;have hr2:=hr.mono hF2;refine aj ?_;refine AW.cond Z (λh=>?_) (λh=>?_)
 ·refine aj ?_;refine AW.block ?_;refine aj ?_;refine AW.range (S:=PH) (λt=>[(6,.bool t.again)]) (λt=>[(ie,.cells false (t.O.map aO.cell))]::[(i2,.cells false [.int .i64 g.ae,.int .i64 g.au,.int .i64 g.start,.slice a m c])]::own)
   (λk u G=>u.O.length=g.au/\(∀n,u.O.getD n false=true->y2 g n)/\u.O.getD g.start false=true/\(u.again=true->fB t.O<fB u.O)/\(u.again=false->u.O=t.O/\∀r∈g.rules.take k,Md t.O r)) m ⟨t.O,false⟩
   Z Z Z Z Z Z Z Z Z zo rfl rfl (λ_=>rfl) (λ_=>rfl) sM oR ⟨hl,hsnd,hst,λh=>(by cases h),λ_=>⟨rfl,by simp⟩⟩ ?_ ?_
  ·intro k u F3 hF3 hk hP;obtain⟨hl,hsnd,hst,hT2,hC⟩:=hP;have hr3:=hr2.mono hF3;refine aj ?_;refine WT.bG hT hr3 Z Z Z Z Z Z Z Z Z zo (λr hrk b1 off ro cs lx hb hp1 hrel=>?_);obtain⟨b2,n2,d2,rfl,hr4⟩:=hrel;obtain⟨hrl,hrr,hrs⟩:=hg.right r (gM hrk);have hr4l:=hr4.len;have htk:g.rules.take (k+1)=g.rules.take k++[r]:=by rw[RZ,hrk];rfl
   obtain⟨e0,he0⟩:∃e0,u.O[r.left]?=some e0:=⟨_,gE (by rw[hl];exact hrl)⟩;have hgE:u.O.getD r.left false=e0:=by rw[No,he0];rfl
   have hE0c:(u.O.map aO.cell)[0+r.left*1]?=some (.bool e0):=by rw[RY,Sy,RM,he0];rfl
   refine aj ?_;refine WT.aK hT Z Z Z Z Z Z (λi6 hi6=>?_);refine aj ?_;refine WT.eA (j:=r.left) (s:=1) hT Z Z Z Z Z Z Z Z Z hrl ?_;refine WT.loadAt hT 1 Z Z Z Z Z Z me Z Z hE0c ?_;refine aj ?_;refine WT.split 32 Z (λh3=>?_) (λh3=>?_)
   ·have h3:e0=false:=by simpa using h3
    refine aj ?_;refine AW.cond Z (λ_=>?_) (λh=>(by cases h));refine AW.exit ?_;refine⟨u,sM,dH,hl,hsnd,hst,hT2,λhag=>?_⟩;obtain⟨q1,q2⟩:=hC hag;refine⟨q1,λr' hr'=>?_⟩;rw[htk] at hr';rcases R5.1 hr' with h4 | h4
    ·exact q2 r' h4
    ·rw[RK.1 h4];intro h5;rw[<-q1,hgE,h3] at h5;cases h5
   ·have h3:e0=true:=by simpa using h3
    refine aj ?_;refine WT.eB (first:=[]) (args:=[.agg ⟨[.int .i64 r.left,.slice b2 n2 d2]⟩]) (capt:=[]) Tryz.func218 Z Z Z Z Z Z Z Z (uQ F3 r.left _ ⟨_,_,_,rfl⟩) (λv hv=>?_)
    subst hv;refine aj ?_;refine AW.cond Z (λh=>(by cases h)) (λ_=>?_);refine aj ?_;refine AW.range (S:=PH) (λt=>[(6,.bool t.again)]) (λt=>[(i6,.cells false [.int .i64 r.left,.slice b2 n2 d2])]::[(ie,.cells false (t.O.map aO.cell))]::[(i2,.cells false [.int .i64 g.ae,.int .i64 g.au,.int .i64 g.start,.slice a m c])]::own)
     (λi v G=>v.O.length=g.au/\(∀n,v.O.getD n false=true->y2 g n)/\v.O.getD g.start false=true/\(v.again=true->fB t.O<fB v.O)/\(v.again=false->u.again=false/\v.O=u.O/\∀s∈r.right.take i,s.term=false->u.O.getD s.n false=true)) n2 u
     Z Z Z Z Z Z Z Z Z zo rfl rfl (λ_=>rfl) (λ_=>rfl) sM oR ⟨hl,hsnd,hst,hT2,λh=>⟨h,rfl,by simp⟩⟩ ?_ ?_
    ·intro i v F4 hF4 hi hP;obtain⟨hvl,hvsnd,hvst,hvT,hvC⟩:=hP;have hr5:=hr4.mono hF4;refine aj ?_;refine WT.bG hT hr5 Z Z Z Z Z Z Z Z Z zo (λy hyi b5 off5 ro5 cs5 lx5 hb5 hp5 hrel5=>?_);obtain rfl:lx5=_:=hrel5;obtain⟨yt,yn⟩:=y;have hyo:=hrs _ (gM hyi);have hytk:r.right.take (i+1)=r.right.take i++[⟨yt,yn⟩]:=by rw[RZ,hyi];rfl
     refine aj ?_;refine WT.aK hT Z Z Z Z Z Z (λi8 hi8=>?_);refine aj ?_;refine WT.split 48 Z (λh4=>?_) (λh4=>?_)
     ·have h4:yt=false:=by simpa using h4
      subst h4;have hyn:yn<g.au:=hyo;obtain⟨e1,he1⟩:∃e1,v.O[yn]?=some e1:=⟨_,gE (by rw[hvl];exact hyn)⟩;have hgE1:v.O.getD yn false=e1:=by rw[No,he1];rfl
      have hE1c:(v.O.map aO.cell)[0+yn*1]?=some (.bool e1):=by rw[RY,Sy,RM,he1];rfl
      refine aj ?_;refine WT.eA (j:=yn) (s:=1) hT Z Z Z Z Z Z Z Z Z hyn ?_;refine WT.loadAt hT 2 Z Z Z Z Z Z me Z Z hE1c ?_;refine aj ?_;refine AW.cond Z (λh5=>?_) (λh5=>?_)
      ·have h5:e1=false:=by simpa using h5
       subst h5;refine aj ?_;refine WT.eA (j:=yn) (s:=1) hT Z Z Z Z Z Z Z Z Z hyn ?_;refine WT.storeAt hT 2 0 Z Z Z Z Z Z Z Z Z Z (by simp;omega) Z Z ?_;refine aj ?_;have h1s:=od he1;refine⟨⟨v.O.set yn true,true⟩,sM,?_,by simp[hvl],λn hn=>?_,IK hvst,λ_=>?_,λh=>(by cases h)⟩
       ·refine ah.skip _ (ah.flat ?_);dsimp only;rw[Tb,RY,Sy];exact NO _
       ·rcases si hn with rfl | h6
        ·exact .more (gM hrk) (hsnd _ (by rw[hgE,h3])) (gM hyi)
        ·exact hvsnd n h6
       ·show fB t.O<fB (v.O.set yn true);rw[h1s];cases hva:v.again with
        | true=>have:=hvT hva;omega
        | false=>
         obtain⟨q1,q2,_⟩:=hvC hva;rw[q2,(hC q1).1];omega
      ·have h5:e1=true:=by simpa using h5
       refine aj ?_;refine⟨v,sM,dH,hvl,hvsnd,hvst,hvT,λhag=>?_⟩;obtain⟨q1,q2,q3⟩:=hvC hag;refine⟨q1,q2,λs hs hs2=>?_⟩;rw[hytk] at hs;rcases R5.1 hs with h6 | h6
       ·exact q3 s h6 hs2
       ·rw[RK.1 h6,<-q2,hgE1,h5]
     ·have h4:yt=true:=by simpa using h4
      refine aj ?_;refine AW.cond Z (λh=>(by cases h)) (λ_=>?_);refine aj ?_;refine⟨v,sM,dH,hvl,hvsnd,hvst,hvT,λhag=>?_⟩;obtain⟨q1,q2,q3⟩:=hvC hag;refine⟨q1,q2,λs hs hs2=>?_⟩;rw[hytk] at hs;rcases R5.1 hs with h6 | h6
      ·exact q3 s h6 hs2
      ·rw[RK.1 h6,h4] at hs2;cases hs2
    ·intro v F4 hF4 hP;obtain⟨hvl,hvsnd,hvst,hvT,hvC⟩:=hP;rw[RN zo] at hvC;refine⟨v,sM,dH,hvl,hvsnd,hvst,hvT,λhag=>?_⟩;obtain⟨q1,q2,q3⟩:=hvC hag;obtain⟨q4,q5⟩:=hC q1;refine⟨by rw[q2,q4],λr' hr'=>?_⟩;rw[htk] at hr';rcases R5.1 hr' with h6 | h6
     ·exact q5 r' h6
     ·rw[RK.1 h6];intro _ s hs hs2;rw[<-q4];exact q3 s hs hs2
  ·intro u F3 hF3 hP;obtain⟨hul,husnd,hust,hT2,hC⟩:=hP;rw[RN zo] at hC;refine⟨u,?_,sM,dH,hul,husnd,hust,λhag=>?_⟩
   ·have h1:=rk u.O;have h2:=rk t.O;rw[h,By rfl];split
    ·rename_i h4;have:=hT2 h4;omega
    ·omega
   ·obtain⟨q1,q2⟩:=hC hag;rw[q1];exact q2
 ·refine AW.exit ?_;refine AW.ay 0 Z Z (λF3 hF3 hB3=>?_);refine aj ?_;have hEa:=dS (K:=aO) (R:=fv) (F:=F3) (id:=ie) (row:=t.O) (c:=if t.O.length=0 then 0 else 1) (ro:=false) rfl (λ_ _=>rfl) rfl (hB3 ie _ (by simp));rw[hl] at hEa;refine AW.ret ⟨_,[],⟨_,_,rfl,rfl,rfl⟩,bY,rfl,_,_,t.O,rfl,hEa,hl,λn=>⟨hsnd n,λhn=>?_⟩⟩
  induction hn with
  | start=>exact hst
  | more h4 _ h6 ih=>exact hcl h _ h4 ih _ h6 rfl
theorem uT(F:ar)(g:ai)(hg:Valid g){a:Option Addr}{m c:Nat}(hr:bj cC F a m c g.rules) :
  Abs.Spec CC 182 [.agg ⟨ak g a m c⟩] F [] λF' v o=>o=[]/\∃a' c' O,v=.tuple ⟨[.slice a' g.au c',.int .i64 0]⟩/\bj fv F' a' g.au c' O/\Ib g O:=by
 unfold ak;refine Abs.Spec.fn (n:=12) Tryz.func182 rfl rfl λown=>?_;refine AW.seq (AW.dp ?_);refine WT.cy Z Z Z Z Z Z (λi1 hi1=>?_);refine aj ?_;have hck:=ml F g hg.range hr;unfold ak at hck;refine WT.a6 Tryz.func85 Z Z Z Z Z Z hck (λv hv=>?_);rw[hg.zU] at hv;subst hv;refine aj ?_;refine AW.cond Z (λh=>(by simp at h)) (λ_=>?_);refine aj ?_;have hre:=zX F g hg hr;unfold ak at hre;refine WT.cO Tryz.func217 Z Z Z Z Z Z hre (λF3 v hF3 hv=>?_);obtain⟨a8,c8,O,rfl,hO,hR⟩:=hv;refine aj ?_
 exact AW.ret ⟨_,[],⟨_,_,rfl,⟨_,_,rfl,rfl,rfl⟩,rfl⟩,bY,rfl,a8,c8,O,rfl,hO,hR⟩
structure zN(g:ai)(Fo:List (List Bool)):Prop where
 BQ:nK g.au (g.ae+1) Fo
 snd:∀n t,(Fo.getD n []).getD t false=true->Bf g n t
 start:(Fo.getD g.start []).getD g.ae false=true
def um(g:ai)(Fo:List (List Bool))(r:bW)(i:Nat):Prop:=∀n,r.right[i]?=some ⟨false,n⟩->(∀t,dq g (r.right.drop (i+1)) t->(Fo.getD n []).getD t false=true)/\(gP g (r.right.drop (i+1))->∀t,(Fo.getD r.left []).getD t false=true->(Fo.getD n []).getD t false=true)
theorem jd{α:Type}{l:List α}{n k:Nat}{x d:α}(hn:n<l.length):(l.set n x).getD k d=if k=n then x else l.getD k d:=by
 rw[No,Ua];by_cases h:n=k
 ·subst h;rw[By rfl,By hn,By rfl];rfl
 ·rw[AT h,AT (λe=>h e.symm),No]
theorem zN.row{g:ai}{Fo:List (List Bool)}(h:zN g Fo){n:Nat}(hn:n<g.au):(Fo.getD n []).length=g.ae+1:=by
 have:=gE (show n<Fo.length by rw[h.BQ.size];exact hn);rw[No,this];exact h.BQ.row _ (TK _)
theorem zN.or{g:ai}{Fo:List (List Bool)}(h:zN g Fo){n:Nat}(hn:n<g.au){zs:List Bool}(hz:zs.length=g.ae+1)(hs:∀t,zs.getD t false=true->Bf g n t):zN g (Fo.set n (aC (Fo.getD n []) zs)):=by
 have hl:=h.row hn;have hn2:n<Fo.length:=by rw[h.BQ.size];exact hn
 refine⟨h.BQ.setRow _ (by rw[gu zo];exact hl),λk t ht=>?_,?_⟩
 ·rw[jd hn2] at ht;split at ht
  ·rename_i e;subst e;rcases pt ht with h1 | h1
   ·exact h.snd _ _ h1
   ·exact hs t h1
  ·exact h.snd _ _ ht
 ·rw[jd hn2];split
  ·rename_i e;rw[<-e];exact jf (by rw[h.row (by rw[e];exact hn)];exact hz.symm) (.inl h.start)
  ·exact h.start
theorem zN.grow{g:ai}{Fo:List (List Bool)}(h:zN g Fo){n:Nat}(hn:n<g.au){zs:List Bool}(hz:zs.length=g.ae+1):dt Fo<=dt (Fo.set n (aC (Fo.getD n []) zs))/\(aC (Fo.getD n []) zs≠Fo.getD n []->dt Fo<dt (Fo.set n (aC (Fo.getD n []) zs))):=by
 have hl:=h.row hn;have hn2:n<Fo.length:=by rw[h.BQ.size];exact hn
 have h0:Fo[n]?=some (Fo.getD n []):=by rw[No,gE hn2];rfl
 have h1:=yF (row':=aC (Fo.getD n []) zs) h0;have h2:=AG (xs:=Fo.getD n []) (ys:=zs) zo;exact⟨by have:=h2.1;omega,λhne=>by have:=h2.2 hne;omega⟩
theorem CV{Fo:List (List Bool)}{n:Nat}(hn:n<Fo.length):Fo.set n (Fo.getD n [])=Fo:=by
 apply SA;intro i;by_cases hi:i=n
 ·subst hi;rw[Sc hn,No,gE hn];rfl
 ·rw[SD zo]
theorem FU{xs zs:List Bool}(hl:xs.length=zs.length)(h:aC xs zs=xs){t:Nat}(ht:zs.getD t false=true):xs.getD t false=true:=by
 rw[<-h];exact jf hl (.inr ht)
theorem wO:∀xs:List Bool,aC xs xs=xs
 | []=>rfl
 | x::xs=>by
  have:=wO xs;unfold aC at this ⊢;rw[TH,this,Bool.or_self]
structure Mt(g:ai)(Fo:List (List Bool)):Prop where
 BQ:nK g.au (g.ae+1) Fo
 at_:∀n t,(Fo.getD n []).getD t false=true↔Bf g n t
theorem Mt.of{g:ai}{Fo:List (List Bool)}(h:zN g Fo)(hc:∀r∈g.rules,y2 g r.left->∀j,um g Fo r j):Mt g Fo:=by
 have hat:∀{r:bW} {pre post:List Sym} {m:Nat},r.right=pre++⟨false,m⟩::post->r.right[pre.length]?=some ⟨false,m⟩/\r.right.drop (pre.length+1)=post:=λ{r pre post m} e=>by
  rw[e];refine⟨by rw[Sj (AS _),TW];rfl,?_⟩;rw[show pre++⟨false,m⟩::post=(pre++[⟨false,m⟩])++post by simp,List.drop_left' (by simp)]
 refine⟨h.BQ,λn t=>⟨h.snd n t,λhf=>?_⟩⟩
 induction hf with
 | start=>exact h.start
 | DA h1 h2 h3 h4=>
  obtain⟨q1,q2⟩:=hat h3;exact(hc _ h1 h2 _ _ q1).1 _ (by rw[q2];exact h4)
 | pass h1 h2 h3 h4 _ ih=>
  obtain⟨q1,q2⟩:=hat h3;exact(hc _ h1 h2 _ _ q1).2 (by rw[q2];exact h4) _ ih
structure NR where
 Fo:List (List Bool)
 bs:List (Nat×aE)
 again:Bool
theorem zN.step{g:ai}{t0 u v:NR}{r:bW}{i n:Nat}(hr:r∈g.rules)(hR:y2 g r.left)(hlr:r.left<g.au)(hx:r.right[i]?=some ⟨false,n⟩)(hn:n<g.au)(hv:zN g v.Fo)
  (hT:v.again=true->dt t0.Fo<dt v.Fo) (hut:u.again=false->u.Fo=t0.Fo) (hC:v.again=false->u.again=false/\v.Fo=u.Fo/\∀j<i,um g u.Fo r j)
  {row:List Bool} {emp:Bool} (hrl:row.length=g.ae) (hb:∀t,row.getD t false=true↔dq g (r.right.drop (i+1)) t) (he:emp=true↔gP g (r.right.drop (i+1)))
  {Fo1 Fo2:List (List Bool)} (h1:Fo1=v.Fo.set n (aC (v.Fo.getD n []) (gY (g.ae+1) row)))
  (h2:Fo2=if emp=true then Fo1.set n (aC (Fo1.getD n []) (Fo1.getD r.left [])) else Fo1) {ag:Bool}
  (ha1:v.again=true->ag=true) (ha2:aC (v.Fo.getD n []) (gY (g.ae+1) row)≠v.Fo.getD n []->ag=true) (ha3:emp=true->aC (Fo1.getD n []) (Fo1.getD r.left [])≠Fo1.getD n []->ag=true)
  (ha4:ag=true->v.again=true\/aC (v.Fo.getD n []) (gY (g.ae+1) row)≠v.Fo.getD n []\/(emp=true/\aC (Fo1.getD n []) (Fo1.getD r.left [])≠Fo1.getD n [])) :
  zN g Fo2/\(ag=true->dt t0.Fo<dt Fo2)/\(ag=false->u.again=false/\Fo2=u.Fo/\∀j<i+1,um g u.Fo r j):=by
 have hsp:r.right=r.right.take i++⟨false,n⟩::r.right.drop (i+1):=by
  have h3:=(gS hx);obtain⟨h4,h5⟩:=h3;rw[<-h5,List.getElem_cons_drop h4,S2]
 have hpl:(gY (g.ae+1) row).length=g.ae+1:=kA zo;have hI1:zN g Fo1:=by
  rw[h1];refine hv.or hn hpl λt ht=>?_;rw[Bn,hb] at ht;exact .DA hr hR hsp ht
 have hg1:=hv.grow hn hpl;rw[<-h1] at hg1;have hz2:(Fo1.getD r.left []).length=g.ae+1:=hI1.row hlr;have hI2:zN g Fo2:=by
  rw[h2];split
  ·rename_i hem;exact hI1.or hn hz2 λt ht=>.pass hr hR hsp (he.1 hem) (hI1.snd _ _ ht)
  ·exact hI1
 have hg2:dt Fo1<=dt Fo2/\(emp=true->aC (Fo1.getD n []) (Fo1.getD r.left [])≠Fo1.getD n []->dt Fo1<dt Fo2):=by
  rw[h2];split
  ·have:=hI1.grow hn hz2;exact⟨this.1,λ_=>this.2⟩
  ·rename_i hem;exact⟨AS _,λh=>absurd h hem⟩
 have hn2:n<v.Fo.length:=by rw[hv.BQ.size];exact hn
 refine⟨hI2,λhag=>?_,λhag=>?_⟩
 ·have hle:dt t0.Fo<=dt v.Fo:=by
   cases hva:v.again with
   | true=>exact SF (hT hva)
   | false=>
    obtain⟨q1,q2,_⟩:=hC hva;rw[q2,hut q1];exact AS _
  have e1:=hg1.1;have e2:=hg2.1;rcases ha4 hag with h3 | h3 | ⟨h3,h4⟩
  ·have:=hT h3;omega
  ·have:=hg1.2 h3;omega
  ·have:=hg2.2 h3 h4;omega
 ·have hva:v.again=false:=by
   cases h:v.again with
   | false=>rfl
   | true=>rw[ha1 h] at hag;cases hag
  obtain⟨q1,q2,q3⟩:=hC hva;have e1:aC (v.Fo.getD n []) (gY (g.ae+1) row)=v.Fo.getD n []:=Classical.byContradiction λh=>by rw[ha2 h] at hag;cases hag
  have eF1:Fo1=v.Fo:=by rw[h1,e1,CV hn2]
  have e2:emp=true->aC (v.Fo.getD n []) (v.Fo.getD r.left [])=v.Fo.getD n []:=λhem=>Classical.byContradiction λh=>by rw[ha3 hem (by rw[eF1];exact h)] at hag;cases hag
  have eF2:Fo2=v.Fo:=by
   rw[h2];split
   ·rename_i hem;rw[eF1,e2 hem,CV hn2]
   ·exact eF1
  refine⟨q1,by rw[eF2,q2],λj hj=>?_⟩;rcases R2 j i with h6 | h6
  ·exact q3 j h6
  ·obtain rfl:j=i:=by omega
   intro n' hn';rw[hx] at hn';simp only[IT,Sym.mk.injEq,true_and] at hn';subst hn';rw[<-q2];refine⟨λt ht=>FU (by rw[hv.row hn,hpl]) e1 (by rw[Bn];exact(hb t).2 ht),λhnul t ht=>FU (by rw[hv.row hn,hv.row hlr]) (e2 (he.2 hnul)) ht⟩
theorem zN.skip{g:ai}{u v:NR}{r:bW}{i:Nat}{y:Sym}(hx:r.right[i]?=some y)(hy:y.term=true)(hC:v.again=false->u.again=false/\v.Fo=u.Fo/\∀j<i,um g u.Fo r j):v.again=false->u.again=false/\v.Fo=u.Fo/\∀j<i+1,um g u.Fo r j:=λhag=>by
 obtain⟨q1,q2,q3⟩:=hC hag;refine⟨q1,q2,λj hj=>?_⟩;rcases R2 j i with h6 | h6
 ·exact q3 j h6
 ·obtain rfl:j=i:=by omega
  intro n' hn';rw[hx] at hn';obtain rfl:=BY hn';cases hy
theorem uK(G:ar){i1 i2:Nat}{xs zs:List Bool}{m c1 c2:Nat}{B:List (Nat×aE)}(hB:∀i b,(i,b)∈B->G i=some b)(hm:m=xs.length)(hz:zs.length=m)(hmm:m<=1000000)
  (h:(i1=i2/\zs=xs)\/(i2,aE.cells false (zs.map aO.cell))∈B) (hc2:c2=if zs.length=0 then 0 else 1) :
  Abs.Spec CC 134 [.slice (some ⟨i1,0,none⟩) m c1,.slice (some ⟨i2,0,none⟩) m c2] G [[(i1,.cells false (xs.map aO.cell))]] λ_ v o=>∃D',o=[D']/\D'=[(i1,.cells false ((aC xs zs).map aO.cell))]/\v=.bool (decide (aC xs zs≠xs)):=by
 rcases h with ⟨rfl,rfl⟩ | h
 ·rw[wO];refine(vM G hm hmm).mono λF' v o _ ⟨D',h1,h2,h3⟩=>⟨D',h1,h2,?_⟩;rw[h3];simp
 ·have ha:=dS (K:=aO) (R:=fv) (F:=G) (id:=i2) (row:=zs) (c:=if zs.length=0 then 0 else 1) (ro:=false) rfl (λ_ _=>rfl) rfl (hB i2 _ h);rw[hz] at ha;rw[hc2,hz];exact qk G hm ha zo hmm
theorem jU{α:Type}{p q z y:α}{bs X own:List α}(h:bs.Perm (y::X)):(p::q::((z::bs)++own)).Perm ((z::X)++(y::p::q::own)):=by
 classical
 rw[List.perm_iff_count] at h ⊢;intro a;have:=h a;simp only[List.count_cons,List.count_append] at this ⊢;omega
theorem Cz(F:ar)(g:ai)(hg:Valid g){is:Nat}{a:Option Addr}{m c:Nat}{E:List Bool}{Fi:List (List Bool)}(hS:wL F is g a m c E Fi)(hFS:DY g E Fi) :
  Abs.Spec CC 132 [.pointer (some ⟨is,0,none⟩)] F [] λF' v o=>o=[]/\∃a' n' c' Fo,v=.slice a' n' c'/\bj (cg fv) F' a' n' c' Fo/\Mt g Fo:=by
 have hr:=hS.rules;have hrlen:=hr.len;have hgr:=hg.range.rules;have hgn:=hg.range.au;have hgt:=hg.range.ae;have hgst:g.start<g.au:=hg.range.start;obtain⟨ie,io0,ce,co,ro,hb0,hE0,hFi0⟩:=hS.bu;refine Abs.Spec.fn (n:=118) Tryz.func132 rfl rfl λown=>?_;refine aj ?_;have hre:=uT F g hg hr;unfold ak at hre;refine WT.cO Tryz.func182 Z Z Z Z Z Z hre (λF0 v hF0 hv=>?_);obtain⟨a3,c3,O,rfl,hO,hOR⟩:=hv;have hb0:=hF0 _ _ hb0;refine aj ?_;refine AW.range (S:=FS) (λs=>[(5,.slice s.a s.m s.c)]) (λs=>s.B::s.bs::own)
  (λj s G=>dR xC G s.a s.m s.c s.B s.vs/\Abs.Rows aO s.vs s.bs (List.replicate j (List.replicate (g.ae+1) false))) g.au ⟨none,0,0,[],[],[]⟩ Z Z Z Z Z Z Z Z Z zo rfl rfl (λ_=>rfl) (λ_=>rfl) sM (ah.flat (NO _)) ⟨dR.gz _ _,Abs.Rows.nil⟩ ?_ ?_
 ·intro j s F1 hF1 hj hP;obtain⟨hb,hR⟩:=hP;have hb1:=hF1 _ _ hb0;have hblen:=hb.len;have hvl:=hR.len.1;rw[SX] at hvl;refine aj ?_;refine WT.uw (l:=g.ae+1) hT Z Z Z Z Z Z Z Z Z Z Z Z kF (λir hir=>?_);rw[nG];refine WT.be hT Z Z Z Z Z Z Z Z Z Z Z Z Z Z (λi9 hi9=>?_);refine WT.bX (R:=xC) (ys:=[.slice (some ⟨ir,0,none⟩) (g.ae+1) (if g.ae+1=0 then 0 else 1)]) hT 2 hb Z (λ_=>rfl) Z Z Z Z Z Z Z Z Z Z Z (λh0 s0=>bw hT s0 0 Z Z Z Z) (aH.single (R:=xC) ⟨rfl,rfl⟩) Z (by decide) kF (λa3 c3 B3 hB3=>?_);refine aj ?_
  refine⟨⟨a3,s.m+1,c3,B3,s.vs++[.slice (some ⟨ir,0,none⟩) (g.ae+1) (if g.ae+1=0 then 0 else 1)],s.bs++[(ir,.cells false (List.replicate (g.ae+1) (.bool false)))]⟩,sM,?_,hB3,?_⟩
  ·refine ah.skip _ (ah.flat ?_);simp only[S8,List.singleton_append];have:=uh (ir,aE.cells false (List.replicate (g.ae+1) (.bool false))) B3 s.bs own.flatten;simpa using this
  ·rw[show List.replicate (j+1) (List.replicate (g.ae+1) false)=List.replicate j (List.replicate (g.ae+1) false)++[List.replicate (g.ae+1) false] from List.replicate_succ'];have:=hR.snoc (K:=aO) (id:=ir) (row:=List.replicate (g.ae+1) false) (c:=if g.ae+1=0 then 0 else 1) (by simp);rw[SX,Uo] at this;exact this
 ·intro s F1 hF1 hP;obtain⟨hb,hR⟩:=hP;have hb1:=hF1 _ _ hb0;have hvl:=hR.len.1;rw[SX] at hvl;have hr1:=(hr.mono hF0).mono hF1;have hblen:=hb.len;obtain⟨io,cs,hia,hic,hiB,hcells,_⟩:=hb.at_.resolve_left (λh=>by rw[h.1] at hvl;simp at hvl;omega);have hcs:=yw hcells;subst hcs;have hic:s.c=1:=hic;refine AW.le (own2:=((io,.cells false s.vs)::s.bs)::own) (ah.flat ?_) ?_
  ·rw[hiB];exact NO _
  rw[hia,hic,show s.m=g.au by omega];obtain⟨id,cc,hvs,hbs,hcc⟩:=hR.at g.start (List.replicate (g.ae+1) false) (by rw[S9,By hgst]);rw[SX] at hvs;have hvs0:s.vs[0+g.start*1]?=some (.slice (some ⟨id,0,none⟩) (g.ae+1) cc):=by rw[RY,Sy];exact hvs
  have hR0:=hR.set g.start (List.replicate (g.ae+1) false) ((List.replicate (g.ae+1) false).set g.ae true) id (by rw[S9,By hgst]) (by simp) hbs;refine aj ?_;refine WT.eA (j:=g.start) (s:=1) hT Z Z Z Z Z Z Z Z Z hgst ?_;refine WT.loadAt hT 0 Z Z Z Z Z Z me Z Z hvs0 ?_;refine aj ?_;refine WT.eA (j:=g.ae) (s:=1) hT Z Z Z Z Z Z Z Z Z zo ?_;refine WT.storeAt hT 0 (g.start+1) Z Z Z Z Z Z hbs Z Z Z (by simp) Z Z ?_;refine aj ?_;refine AW.block ?_;refine AW.cm (S:=NR) (λt=>[(6,.bool t.again)]) (λt=>((io,.cells false s.vs)::t.bs)::own)
   (λt G=>Abs.Rows aO s.vs t.bs t.Fo/\zN g t.Fo/\(t.again=false->∀r∈g.rules,y2 g r.left->∀j,um g t.Fo r j)) (λt=>if t.again=true then 1+(g.au*(g.ae+1)-dt t.Fo) else 0)
   ⟨(List.replicate g.au (List.replicate (g.ae+1) false)).set g.start ((List.replicate (g.ae+1) false).set g.ae true),s.bs.set g.start (id,.cells false (((List.replicate (g.ae+1) false).set g.ae true).map aO.cell)),true⟩
   sM (ah.flat ?_) ⟨hR0,?_,λh=>(by cases h)⟩ ?_
  ·dsimp only;rw[Tb,RY,Sy];exact NO _
  ·refine⟨⟨by simp,λrow hrow=>?_⟩,λn t ht=>?_,?_⟩
   ·rcases TS hrow with h1 | h1
    ·rw[Tk h1];simp
    ·rw[h1];simp
   ·rw[jd (by simpa using hgst)] at ht;split at ht
    ·rename_i e;subst e;rcases si ht with rfl | h3
     ·exact .start
     ·exact absurd h3 iW
    ·exfalso;rw[No (l:=List.replicate g.au _),S9] at ht;split at ht
     ·exact absurd ht iW
     ·simp at ht
   ·rw[jd (by simpa using hgst),By rfl];exact BR (by simp)
  intro t F2 hF2 hP;obtain⟨hR,hI,hC⟩:=hP;have hr2:=hr1.mono hF2;have hb2:=hF2 _ _ hb1;have hO2:=(hO.mono hF1).mono hF2;refine aj ?_;refine AW.cond Z (λh=>?_) (λh=>?_)
  ·refine aj ?_;refine AW.block ?_;refine aj ?_;refine AW.range (S:=NR) (λt=>[(6,.bool t.again)]) (λt=>((io,.cells false s.vs)::t.bs)::own)
    (λk u G=>Abs.Rows aO s.vs u.bs u.Fo/\zN g u.Fo/\(u.again=true->dt t.Fo<dt u.Fo)/\(u.again=false->u.Fo=t.Fo/\∀r∈g.rules.take k,y2 g r.left->∀j,um g t.Fo r j)) m ⟨t.Fo,t.bs,false⟩
    Z Z Z Z Z Z Z Z Z zo rfl rfl (λ_=>rfl) (λ_=>rfl) sM oR ⟨hR,hI,λh=>(by cases h),λ_=>⟨rfl,by simp⟩⟩ ?_ ?_
   ·intro k u F3 hF3 hk hP;obtain⟨huR,huI,huT,huC⟩:=hP;have hr3:=hr2.mono hF3;have hb3:=hF3 _ _ hb2;have hO3:=hO2.mono hF3;have hOl:=hO3.len;refine aj ?_;refine WT.bG hT hr3 Z Z Z Z Z Z Z Z Z zo (λr hrk b1 off ro1 cs lx hb1' hp1 hrel=>?_);obtain⟨b2,n2,d2,rfl,hr4⟩:=hrel;obtain⟨hrl,hrr,hrs⟩:=hg.right r (gM hrk);have hr4l:=hr4.len;have htk:g.rules.take (k+1)=g.rules.take k++[r]:=by rw[RZ,hrk];rfl
    refine aj ?_;refine WT.aK hT Z Z Z Z Z Z (λi8 hi8=>?_);refine aj ?_;refine WT.bG hT hO3 Z Z Z Z Z Z Z Z Z (by have:=hOR.len;omega) (λe0 he0 b5 off5 ro5 cs5 lx5 hb5 hp5 hrel5=>?_);obtain rfl:lx5=_:=hrel5;have hgE:O.getD r.left false=e0:=by rw[No,he0];rfl
    refine aj ?_;refine AW.cond Z (λh3=>?_) (λh3=>?_)
    ·have h3:e0=false:=by simpa using h3
     refine AW.exit ?_;refine⟨u,sM,dH,huR,huI,huT,λhag=>?_⟩;obtain⟨q1,q2⟩:=huC hag;refine⟨q1,λr' hr'=>?_⟩;rw[htk] at hr';rcases R5.1 hr' with h4 | h4
     ·exact q2 r' h4
     ·rw[RK.1 h4];intro h5;rw[<-hOR.at_,hgE,h3] at h5;cases h5
    ·have h3:e0=true:=by simpa using h3
     have hRch:y2 g r.left:=(hOR.at_ _).1 (by rw[hgE,h3]);refine aj ?_;refine AW.range (S:=NR) (λt=>[(6,.bool t.again)]) (λt=>[(i8,.cells false [.int .i64 r.left,.slice b2 n2 d2])]::((io,.cells false s.vs)::t.bs)::own)
      (λi v G=>Abs.Rows aO s.vs v.bs v.Fo/\zN g v.Fo/\(v.again=true->dt t.Fo<dt v.Fo)/\(v.again=false->u.again=false/\v.Fo=u.Fo/\∀j<i,um g u.Fo r j)) n2 u
      Z Z Z Z Z Z Z Z Z zo rfl rfl (λ_=>rfl) (λ_=>rfl) sM oR ⟨huR,huI,huT,λh=>⟨h,rfl,λj hj=>absurd hj (Tl _)⟩⟩ ?_ ?_
     ·intro i v F4 hF4 hi hP;obtain⟨hvR,hvI,hvT,hvC⟩:=hP;have hr5:=hr4.mono hF4;have hb4:=hF4 _ _ hb3;refine aj ?_;refine WT.bG hT hr5 Z Z Z Z Z Z Z Z Z zo (λy hyi b5 off5 ro5 cs5 lx5 hb5 hp5 hrel5=>?_);obtain rfl:lx5=_:=hrel5;obtain⟨yt,yn⟩:=y;have hyo:=hrs _ (gM hyi);refine aj ?_;refine WT.aK hT Z Z Z Z Z Z (λi10 hi10=>?_);refine aj ?_;refine AW.cond Z (λh4=>?_) (λh4=>?_)
      ·have h4:yt=true:=by simpa using h4
       refine AW.exit ?_;exact⟨v,sM,dH,hvR,hvI,hvT,zN.skip hyi h4 hvC⟩
      ·have h4:yt=false:=by simpa using h4
       subst h4;have hyn:yn<g.au:=hyo;refine aj ?_;obtain⟨ra,rc,hrs2,hra⟩:=hr5.slice (C:=CC) (lo:=i+1) (hi:=n2) zo (AS _) hT (t:=87) Z Z Z (some (.int .i64 ((i+1:Nat):Int))) none (by simp[db];omega) rfl;refine WT.slice Z Z Z Z Z Z Z Z hrs2 ?_;rw[RN zo] at hra;have hF34:=((((hF0.trans hF1).trans hF2).trans hF3).trans hF4);have hlst:=hFS.list (l:=r.right.drop (i+1)) (λy hy=>hrs y (TY hy))
       refine WT.wQ Tryz.func133 Z Z Z Z Z Z (xm F4 hb4 (hE0.mono hF34) (hFi0.mono hF34) hS.row zo hra zo (λy hy=>hrs y (TY hy))) (λF5 w B5 hF5 hv=>?_);obtain⟨ir,rfl,hrl5,rfl⟩:=hv;refine WT.ay 0 Z Z (λF6 hF6 hB6=>?_);have hrow:bj fv F6 (some ⟨ir,0,none⟩) g.ae (if g.ae=0 then 0 else 1) (ofRow E Fi (List.replicate g.ae false) (r.right.drop (i+1))).1:=by
        have:=dS (K:=aO) (R:=fv) (F:=F6) (id:=ir) (row:=(ofRow E Fi (List.replicate g.ae false) (r.right.drop (i+1))).1) (c:=if (ofRow E Fi (List.replicate g.ae false) (r.right.drop (i+1))).1.length=0 then 0 else 1) (ro:=false) rfl (λ_ _=>rfl) rfl (hB6 ir _ me);rw[hrl5] at this;exact this
       generalize ofRow E Fi (List.replicate g.ae false) (r.right.drop (i+1))=fr at hlst hrow hrl5 ⊢;obtain⟨row,emp⟩:=fr;dsimp only at hlst hrow hrl5;have hnl:yn<v.Fo.length:=by rw[hvI.BQ.size];exact hyn
       have hrow0:v.Fo[yn]?=some (v.Fo.getD yn []):=by rw[No,gE hnl];rfl
       have holdl:=hvI.row hyn;obtain⟨id1,cc1,hvs1,hbs1,hcc1⟩:=hvR.at yn _ hrow0;have hst:=λ(Fo2:List (List Bool)) (h2:Fo2=if emp=true then (v.Fo.set yn (aC (v.Fo.getD yn []) (gY (g.ae+1) row))).set yn (aC ((v.Fo.set yn (aC (v.Fo.getD yn []) (gY (g.ae+1) row))).getD yn []) ((v.Fo.set yn (aC (v.Fo.getD yn []) (gY (g.ae+1) row))).getD r.left [])) else v.Fo.set yn (aC (v.Fo.getD yn []) (gY (g.ae+1) row))) (ag:Bool)=>zN.step (t0:=t) (u:=u) (v:=v) (gM hrk) hRch hrl hyi hyn hvI hvT (λh=>(huC h).1) hvC hrl5 hlst.1 hlst.2 rfl h2 (ag:=ag)
       generalize hold:v.Fo.getD yn []=c6 at hrow0 holdl hvs1 hbs1 hst;have hpl:(gY (g.ae+1) row).length=g.ae+1:=kA zo;have hR1:=hvR.set yn c6 (aC c6 (gY (g.ae+1) row)) id1 hrow0 (by rw[gu zo]) hbs1;rw[holdl] at hvs1;have hvs1':s.vs[0+yn*1]?=some (.slice (some ⟨id1,0,none⟩) (g.ae+1) cc1):=by rw[RY,Sy];exact hvs1
       refine aj ?_;refine WT.eA (j:=yn) (s:=1) hT Z Z Z Z Z Z Z Z Z hyn ?_;refine WT.loadAt hT 3 Z Z Z Z Z Z me Z Z hvs1' ?_;refine aj ?_;have hpk:=cd hbs1;have hn1:(v.Fo.set yn (aC c6 (gY (g.ae+1) row))).getD yn []=aC c6 (gY (g.ae+1) row):=by rw[jd hnl,By rfl]
       rw[hn1] at hst;have hnewl:(aC c6 (gY (g.ae+1) row)).length=g.ae+1:=by rw[gu zo];exact holdl
       refine WT.le (own2:=((io,.cells false s.vs)::v.bs.eraseIdx yn)::[(id1,.cells false (c6.map aO.cell))]::[(i10,.cells false [.bool false,.int .i64 yn])]::[(i8,.cells false [.int .i64 r.left,.slice b2 n2 d2])]::own) (ah.flat (jU hpk)) ?_
       refine WT.pq (dg:=λD'=>((io,.cells false s.vs)::v.bs.eraseIdx yn)::D'::[(i10,.cells false [.bool false,.int .i64 yn])]::[(i8,.cells false [.int .i64 r.left,.slice b2 n2 d2])]::own) 0 1 Tryz.func134 Z Z Z Z Z Z (NO _) (λ_=>NO _) (λG hG hBG=>C8 G (it:=id1) (xs:=c6) (ys:=row) (m:=g.ae+1) zo (hrow.mono hG) zo zo) (λw D hw=>?_);obtain⟨rfl,rfl⟩:=hw;rw[holdl];generalize aC c6 (gY (g.ae+1) row)=new1 at hst hR1 hnewl ⊢
       refine WT.le (own2:=[(i10,.cells false [.bool false,.int .i64 yn])]::[(i8,.cells false [.int .i64 r.left,.slice b2 n2 d2])]::((io,.cells false s.vs)::v.bs.set yn (id1,.cells false (new1.map aO.cell)))::own) (ah.flat (jU (eZ (id1,aE.cells false (new1.map aO.cell)) hbs1)).symm) ?_;have hbl:=(gS hbs1).1;have hbs1':(v.bs.set yn (id1,aE.cells false (new1.map aO.cell)))[yn]?=some (id1,.cells false (new1.map aO.cell)):=Sc hbl;generalize hbs1e:v.bs.set yn (id1,aE.cells false (new1.map aO.cell))=bs1 at hR1 hbs1' ⊢
       have hl1:r.left<(v.Fo.set yn new1).length:=by rw[U6,hvI.BQ.size];exact hrl
       have hrow1:(v.Fo.set yn new1)[yn]?=some new1:=Sc hnl;have hrow2:(v.Fo.set yn new1)[r.left]?=some ((v.Fo.set yn new1).getD r.left []):=by rw[No,gE hl1];rfl
       have hzsl:((v.Fo.set yn new1).getD r.left []).length=g.ae+1:=by
        rw[jd hnl];split
        ·exact hnewl
        ·exact hvI.row hrl
       have hzsn:r.left=yn->(v.Fo.set yn new1).getD r.left []=new1:=λe=>by rw[jd hnl,By e]
       generalize hFo1:v.Fo.set yn new1=Fo1 at hst hR1 hrow1 hrow2 hzsl hzsn ⊢;generalize Fo1.getD r.left []=zs at hst hrow2 hzsl hzsn ⊢;obtain⟨id2,cc2,hvs2,hbs2,hcc2⟩:=hR1.at r.left zs hrow2;rw[hzsl] at hvs2;have hvs2':s.vs[0+r.left*1]?=some (.slice (some ⟨id2,0,none⟩) (g.ae+1) cc2):=by rw[RY,Sy];exact hvs2
       have hR2:=hR1.set yn new1 (aC new1 zs) id1 hrow1 (by rw[gu zo]) hbs1';have hself:(id1=id2/\zs=new1)\/(id2,aE.cells false (zs.map aO.cell))∈((io,.cells false s.vs)::bs1.eraseIdx yn):=by
        by_cases e:r.left=yn
        ·left;refine⟨?_,hzsn e⟩;rw[e,hvs1] at hvs2;simp only[IT,Value.slice.injEq,Addr.mk.injEq] at hvs2;exact hvs2.1.1
        ·right;exact If _ (List.mem_eraseIdx_iff_getElem?.2 ⟨r.left,e,hbs2⟩)
       refine aj ?_;refine WT.split 97 Z (λh7=>?_) (λh7=>?_)
       ·have h7:new1≠c6:=S4 h7;refine aj ?_;refine AW.cond Z (λh5=>?_) (λh5=>?_)
        ·have h5:emp=true:=h5;refine aj ?_;refine WT.eA (j:=yn) (s:=1) hT Z Z Z Z Z Z Z Z Z hyn ?_;refine WT.loadAt hT 2 Z Z Z Z Z Z me Z Z hvs1' ?_;refine aj ?_;refine WT.eA (j:=r.left) (s:=1) hT Z Z Z Z Z Z Z Z Z hrl ?_;refine WT.loadAt hT 2 Z Z Z Z Z Z me Z Z hvs2' ?_;refine WT.le (own2:=((io,.cells false s.vs)::bs1.eraseIdx yn)::[(id1,.cells false (new1.map aO.cell))]::[(i10,.cells false [.bool false,.int .i64 yn])]::[(i8,.cells false [.int .i64 r.left,.slice b2 n2 d2])]::own) (ah.flat (jU (cd hbs1'))) ?_
         refine WT.pq (dg:=λD'=>((io,.cells false s.vs)::bs1.eraseIdx yn)::D'::[(i10,.cells false [.bool false,.int .i64 yn])]::[(i8,.cells false [.int .i64 r.left,.slice b2 n2 d2])]::own) 0 1 Tryz.func134 Z Z Z Z Z Z (NO _) (λ_=>NO _) (λG hG hBG=>uK G (i1:=id1) (i2:=id2) (xs:=new1) (zs:=zs) (m:=g.ae+1) hBG hnewl.symm hzsl zo hself hcc2) (λw D hw=>?_);obtain⟨rfl,rfl⟩:=hw
         refine WT.le (own2:=[(i10,.cells false [.bool false,.int .i64 yn])]::[(i8,.cells false [.int .i64 r.left,.slice b2 n2 d2])]::((io,.cells false s.vs)::bs1.set yn (id1,.cells false ((aC new1 zs).map aO.cell)))::own) (ah.flat (jU (eZ (id1,aE.cells false ((aC new1 zs).map aO.cell)) hbs1')).symm) ?_;refine aj ?_;refine WT.split 112 Z (λh6=>?_) (λh6=>?_)
         ·have h6:aC new1 zs≠new1:=S4 h6;refine aj ?_;exact⟨⟨Fo1.set yn (aC new1 zs),bs1.set yn (id1,.cells false ((aC new1 zs).map aO.cell)),true⟩,sM,dH,hR2,hst _ (by rw[By h5]) true (λ_=>rfl) (λ_=>rfl) (λ_ _=>rfl) (λ_=>.inr (.inr ⟨h5,h6⟩))⟩
         ·have h6:aC new1 zs=new1:=by simpa using h6
          refine aj ?_;exact⟨⟨Fo1.set yn (aC new1 zs),bs1.set yn (id1,.cells false ((aC new1 zs).map aO.cell)),true⟩,sM,dH,hR2,hst _ (by rw[By h5]) true (λ_=>rfl) (λ_=>rfl) (λ_ h=>absurd h6 h) (λ_=>.inr (.inl h7))⟩
        ·have h5:emp=false:=h5;refine aj ?_;exact⟨⟨Fo1,bs1,true⟩,sM,dH,hR1,hst _ (by rw[AT (by rw[h5];simp)]) true (λ_=>rfl) (λ_=>rfl) (λh=>by rw[h5] at h;cases h) (λ_=>.inr (.inl h7))⟩
       ·have h7:new1=c6:=by simpa using h7
        refine aj ?_;refine AW.cond Z (λh5=>?_) (λh5=>?_)
        ·have h5:emp=true:=h5;refine aj ?_;refine WT.eA (j:=yn) (s:=1) hT Z Z Z Z Z Z Z Z Z hyn ?_;refine WT.loadAt hT 2 Z Z Z Z Z Z me Z Z hvs1' ?_;refine aj ?_;refine WT.eA (j:=r.left) (s:=1) hT Z Z Z Z Z Z Z Z Z hrl ?_;refine WT.loadAt hT 2 Z Z Z Z Z Z me Z Z hvs2' ?_;refine WT.le (own2:=((io,.cells false s.vs)::bs1.eraseIdx yn)::[(id1,.cells false (new1.map aO.cell))]::[(i10,.cells false [.bool false,.int .i64 yn])]::[(i8,.cells false [.int .i64 r.left,.slice b2 n2 d2])]::own) (ah.flat (jU (cd hbs1'))) ?_
         refine WT.pq (dg:=λD'=>((io,.cells false s.vs)::bs1.eraseIdx yn)::D'::[(i10,.cells false [.bool false,.int .i64 yn])]::[(i8,.cells false [.int .i64 r.left,.slice b2 n2 d2])]::own) 0 1 Tryz.func134 Z Z Z Z Z Z (NO _) (λ_=>NO _) (λG hG hBG=>uK G (i1:=id1) (i2:=id2) (xs:=new1) (zs:=zs) (m:=g.ae+1) hBG hnewl.symm hzsl zo hself hcc2) (λw D hw=>?_);obtain⟨rfl,rfl⟩:=hw
         refine WT.le (own2:=[(i10,.cells false [.bool false,.int .i64 yn])]::[(i8,.cells false [.int .i64 r.left,.slice b2 n2 d2])]::((io,.cells false s.vs)::bs1.set yn (id1,.cells false ((aC new1 zs).map aO.cell)))::own) (ah.flat (jU (eZ (id1,aE.cells false ((aC new1 zs).map aO.cell)) hbs1')).symm) ?_;refine aj ?_;refine WT.split 112 Z (λh6=>?_) (λh6=>?_)
         ·have h6:aC new1 zs≠new1:=S4 h6;refine aj ?_;exact⟨⟨Fo1.set yn (aC new1 zs),bs1.set yn (id1,.cells false ((aC new1 zs).map aO.cell)),true⟩,sM,dH,hR2,hst _ (by rw[By h5]) true (λ_=>rfl) (λ_=>rfl) (λ_ _=>rfl) (λ_=>.inr (.inr ⟨h5,h6⟩))⟩
         ·have h6:aC new1 zs=new1:=by simpa using h6
          refine aj ?_;exact⟨⟨Fo1.set yn (aC new1 zs),bs1.set yn (id1,.cells false ((aC new1 zs).map aO.cell)),v.again⟩,sM,dH,hR2,hst _ (by rw[By h5]) v.again (λh=>h) (λh=>absurd h7 h) (λ_ h=>absurd h6 h) (λh=>.inl h)⟩
        ·have h5:emp=false:=h5;refine aj ?_;exact⟨⟨Fo1,bs1,v.again⟩,sM,dH,hR1,hst _ (by rw[AT (by rw[h5];simp)]) v.again (λh=>h) (λh=>absurd h7 h) (λh=>by rw[h5] at h;cases h) (λh=>.inl h)⟩
     ·intro v F4 hF4 hP;obtain⟨hvR,hvI,hvT,hvC⟩:=hP;refine⟨v,sM,dH,hvR,hvI,hvT,λhag=>?_⟩;obtain⟨q1,q2,q3⟩:=hvC hag;obtain⟨q4,q5⟩:=huC q1;refine⟨by rw[q2,q4],λr' hr'=>?_⟩;rw[htk] at hr';rcases R5.1 hr' with h6 | h6
      ·exact q5 r' h6
      ·rw[RK.1 h6];intro _ j;rw[<-q4];rcases R2 j n2 with h7 | h7
       ·exact q3 j h7
       ·intro n' hn';rw[R3 zo] at hn';cases hn'
   ·intro u F3 hF3 hP;obtain⟨huR,huI,huT,huC⟩:=hP;rw[RN zo] at huC;refine⟨u,?_,sM,dH,huR,huI,λhag=>?_⟩
    ·have h1:=Bx huI.BQ;rw[h,By rfl];split
     ·rename_i h4;have:=huT h4;omega
     ·omega
    ·obtain⟨q1,q2⟩:=huC hag;rw[q1];exact q2
  ·refine AW.exit ?_;refine AW.ay 0 Z Z (λF3 hF3 hB3=>?_);refine aj ?_;have hFa:=Abs.Rows.arr (K:=aO) (R:=fv) rfl (λ_ _=>rfl) (F:=F3) (o:=io) (c:=if t.Fo.length=0 then 0 else 1) (ro:=false) hR (λi b hm=>hB3 i b (by simp[hm])) rfl (hB3 io _ (by simp));rw[hI.BQ.size,AT zo] at hFa;exact AW.ret ⟨_,[],⟨_,_,rfl,rfl,rfl⟩,bY,rfl,_,_,_,t.Fo,rfl,hFa,.of hI (hC h)⟩
theorem Df(g:ai)(I:List (List Lr))(P:Lr->Nat->Prop):kP g I (λ_=>P)=I.map λst=>st.map λx=>⟨x,bH (P x) (g.ae+1)⟩:=by
 apply SA;intro i;rw[nr,RM]
theorem Cp{P:Nat->Prop}{n:Nat}(h:P n):bH P (n+1)=bH P n+2 ^ n:=by
 show _+(if _ then 2 ^ n else 0)=_;rw[By (@decide_eq_true _ (Classical.propDecidable _) h)]
theorem FF{P:Nat->Prop}{n:Nat}(h:¬P n):bH P (n+1)=bH P n:=by
 show _+(if _ then 2 ^ n else 0)=_;rw[AT (λh2=>h (@of_decide_eq_true _ (Classical.propDecidable _) h2)),Tq]
theorem Jx(n:Nat):bH (λt=>t=n) (n+1)=2 ^ n:=by
 rw[Cp (P:=λt=>t=n) (n:=n) rfl];have:∀k≤n,bH (λt=>t=n) k=0:=by
  intro k
  induction k with
  | zero=>intro _;rfl
  | succ k ih=>
   intro hk;rw[FF (P:=λt=>t=n) (n:=k) zo];exact ih zo
 rw[this n (AS _),RY]
theorem xu{P Q:Nat->Prop}{n:Nat}(h:∀t,P t↔Q t):bH P n=bH Q n:=by
 have:P=Q:=funext λt=>propext (h t);rw[this]
structure Qu where
 a:Option Addr
 m:Nat
 c:Nat
 B:List (Nat×aE)
theorem ID(F:ar)(g:ai)(hg:Valid g){im is:Nat}{a:Option Addr}{m c:Nat}{E:List Bool}{Fi:List (List Bool)}{eb ee:cQ Lr}(hM:wY F im g a m c E Fi is eb ee)
  {I:List (List Lr)} {a1 a2:Option Addr} {n1 c1 n2 c2:Nat} (hI:bj (cg fY) F a1 n1 c1 I) (hn1:n1<=1000) (hok:∀st∈I,st.length<=1000/\∀x∈st,jR g x) :
  Abs.Spec CC 101 [.pointer (some ⟨im,0,none⟩),.agg ⟨[.slice a1 n1 c1,.slice a2 n2 c2]⟩] F [] λF' v o=>o=[]/\∃a' n' c',v=.slice a' n' c'/\bj (cg pE) F' a' n' c' (kP g I λ_=>nP g):=by
 rw[Df];generalize hf:(λx:Lr=>(⟨x,bH (nP g x) (g.ae+1)⟩:bQ))=f;have hgr:=hg.range.rules;have hgt:=hg.range.ae;have hgn:=hg.range.au;have hp:=tM hg.range.ae.2;have hr:=hM.sD.rules;have hrl:=hr.len;have hIl:=hI.len;obtain⟨ib,ie,ro,h1,h2,h3⟩:=hM.bu;refine Abs.Spec.fn (n:=89) Tryz.func101 rfl rfl λown=>?_;refine AW.seq (AW.dp ?_);refine WT.cy Z Z Z Z Z Z (λi3 hi3=>?_);refine aj ?_;refine WT.cO Tryz.func132 Z Z Z Z Z Z (Cz F g hg hM.sD hM.OV) (λF0 v hF0 hv=>?_);obtain⟨a5,n5,c5,Fo,rfl,hFo,hFF⟩:=hv;have h10:=hF0 _ _ h1
 have hr0:=hr.mono hF0;have hI0:=hI.mono hF0;have hFol:=hFo.len;have hFs:=hFF.BQ.size;refine aj ?_;refine AW.range (S:=Qu) (λs=>[(6,.slice s.a s.m s.c)]) (λs=>s.B::[(i3,.cells false [.slice a1 n1 c1,.slice a2 n2 c2])]::own) (λj s G=>dR (cg pE) G s.a s.m s.c s.B ((I.take j).map λst=>st.map f)) n1 ⟨none,0,0,[]⟩
  Z Z Z Z Z Z Z Z Z zo rfl rfl (λ_=>rfl) (λ_=>rfl) sM (ah.flat (NO _)) (dR.gz _ _) ?_ ?_
 ·intro j s F1 hF1 hj hb;have hI1:=hI0.mono hF1;have hbl:=hb.len;rw[RL,Sm] at hbl;refine aj ?_;refine WT.bG hT hI1 Z Z Z Z Z Z Z Z Z zo (λst hsj b1 off1 ro1 cs1 lx1 hb1 hp1 hrel1=>?_);obtain⟨sa,sn,sc,rfl,hst⟩:=hrel1;have hsl:=hst.len;obtain⟨hs1,hs2⟩:=hok st (gM hsj);have htk:I.take (j+1)=I.take j++[st]:=by rw[RZ,hsj];rfl
  refine aj ?_;refine AW.range (S:=Qu) (λs=>[(9,.slice s.a s.m s.c)]) (λu=>u.B::s.B::[(i3,.cells false [.slice a1 n1 c1,.slice a2 n2 c2])]::own) (λk u G=>dR pE G u.a u.m u.c u.B ((st.take k).map f)) sn ⟨none,0,0,[]⟩
   Z Z Z Z Z Z Z Z Z zo rfl rfl (λ_=>rfl) (λ_=>rfl) sM (ah.flat (NO _)) (dR.gz _ _) ?_ ?_
  ·intro k u F2 hF2 hk hub;have hst2:=hst.mono hF2;have h12:=hF2 _ _ (hF1 _ _ h10);have hr2:=(hr0.mono hF1).mono hF2;have hFo2:=(hFo.mono hF1).mono hF2;have hubl:=hub.len;rw[RL,Sm] at hubl;refine aj ?_;refine WT.bG hT hst2 Z Z Z Z Z Z Z Z Z zo (λx hxk b5 off5 ro5 cs5 lx5 hb5 hp5 hrel5=>?_);obtain rfl:lx5=_:=hrel5;obtain⟨hx1,hx2⟩:=hs2 x (gM hxk);have htk2:st.take (k+1)=st.take k++[x]:=by rw[RZ,hxk];rfl
   have hp2:2 ^ g.ae<=256:=AI (RS (by decide) hgt.2) (by decide);refine aj ?_;refine WT.aK hT Z Z Z Z Z Z (λi11 hi11=>?_);refine aj ?_;refine AW.draw (ps:=[(0,8),(5,8),(6,8)]) Z Z ?_;refine aj ?_;refine WT.Bu (x:=1) (y:=g.ae) Z Z Z Z Z Z zo zo ?_;refine aj ?_;refine WT.aK hT Z Z Z Z Z Z (λi12 hi12=>?_);refine aj ?_;refine⟨oY,?_⟩;refine aj ?_;refine AW.cond Z (λh=>?_) (λh=>?_)
   ·have h:x.az<g.rules.length:=by simp at h;omega
    have hrx:=gE h;obtain⟨r,hrx⟩:∃r,g.rules[x.az]?=some r:=⟨_,hrx⟩;have hrl2:=(hg.right r (gM hrx)).1;have hfx:f x=⟨x,bH (Bf g r.left) (g.ae+1)⟩:=by
     rw[<-hf];dsimp only;congr 1;refine xu λt=>?_;unfold nP;rw[By h,lG hrx]
    refine aj ?_;refine WT.bG hT hr2 Z Z Z Z Z Z Z Z Z zo (λr2 hr2x b6 off6 ro6 cs6 lx6 hb6 hp6 hrel6=>?_);rw[hrx] at hr2x;obtain rfl:=BY hr2x;obtain⟨ra,rn,rc,rfl,hra⟩:=hrel6;refine aj ?_;refine WT.bG hT hFo2 Z Z Z Z Z Z Z Z Z zo (λrow hrow b7 off7 ro7 cs7 lx7 hb7 hp7 hrel7=>?_);obtain⟨wa,wn,wc,rfl,hwa⟩:=hrel7;have hrowl:=hFF.BQ.row row (gM hrow);have hwl:=hwa.len;have hrowb:∀t,row.getD t false=true↔Bf g r.left t:=λt=>by
     rw[<-hFF.at_ r.left t,No (l:=Fo),hrow];rfl
    refine aj ?_;refine AW.range (S:=Nat) (λ_=>[]) (λS=>[(i12,.cells false [.int .i64 x.az,.int .i64 x.dot,.int .u32 S])]::[(i11,.cells false [.int .i64 x.az,.int .i64 x.dot])]::u.B::s.B::[(i3,.cells false [.slice a1 n1 c1,.slice a2 n2 c2])]::own) (λt S G=>S=bH (Bf g r.left) t) wn 0
     Z Z Z Z Z Z Z Z Z zo rfl rfl (λ_=>rfl) (λ_=>rfl) sM oR rfl ?_ ?_
    ·intro t S F3 hF3 ht hS;have hwa3:=hwa.mono hF3;have hlt:=jX (Bf g r.left) t;rw[<-hS] at hlt;have hpt:2 ^ t<=256:=AI (RS (by decide) (show t<=8 by omega)) (by decide);refine aj ?_;refine WT.bG hT hwa3 Z Z Z Z Z Z Z Z Z zo (λok hok b8 off8 ro8 cs8 lx8 hb8 hp8 hrel8=>?_);obtain rfl:lx8=_:=hrel8;have hbit:ok=true↔Bf g r.left t:=by
      rw[<-hrowb t,No,hok];rfl
     refine aj ?_;refine AW.cond Z (λh=>?_) (λh=>?_)
     ·have hnew:=Cp (P:=Bf g r.left) (n:=t) (hbit.1 h);refine aj ?_;refine WT.Bu (x:=1) (y:=t) Z Z Z Z Z Z zo zo ?_;refine WT.EF (x:=S) (y:=1*2 ^ t) Z Z Z Z Z Z zo zo ?_;refine aj ?_;refine⟨S ||| 1*2 ^ t,sM,dH,?_⟩
      show S ||| 1*2 ^ t=bH (Bf g r.left) (t+1)
      rw[wx hlt,hnew,hS]
     ·have hnew:=FF (P:=Bf g r.left) (n:=t) (λh2=>by rw[hbit.2 h2] at h;cases h);refine aj ?_;exact⟨S,sM,dH,by show S=bH (Bf g r.left) (t+1);rw[hnew];exact hS⟩
    ·intro S F3 hF3 hS;have hub3:=hub.mono hF3;rw[show wn=g.ae+1 by omega] at hS;have hxS:f x=⟨x,S⟩:=by rw[hfx,hS]
     refine aj ?_;refine WT.be hT Z Z Z Z Z Z Z Z Z Z Z Z Z Z (λi33 hi33=>?_);refine WT.bX (R:=pE) (ys:=[⟨x,S⟩]) hT 3 hub3 Z (λ_=>rfl) Z Z Z Z Z Z Z Z Z Z Z (λh0 s0=>bw hT s0 0 Z Z Z Z) (aH.single (R:=pE) (x:=⟨x,S⟩) rfl) Z (by decide) kF (λa3 c3 B3 hB3=>?_);refine aj ?_;refine⟨⟨a3,u.m+1,c3,B3⟩,sM,dH,?_⟩;dsimp only;rw[htk2,Si,JN,SQ,hxS];exact hB3
   ·have h:x.az=g.rules.length:=by simp at h;omega
    have hfx:f x=⟨x,1*2 ^ g.ae⟩:=by
     rw[<-hf];dsimp only;congr 1;rw[S7,<-Jx];refine xu λt=>?_;unfold nP;rw[AT zo]
    refine aj ?_;refine WT.be hT Z Z Z Z Z Z Z Z Z Z Z Z Z Z (λi33 hi33=>?_);refine WT.bX (R:=pE) (ys:=[⟨x,1*2 ^ g.ae⟩]) hT 3 hub Z (λ_=>rfl) Z Z Z Z Z Z Z Z Z Z Z (λh0 s0=>bw hT s0 0 Z Z Z Z) (aH.single (R:=pE) (x:=⟨x,1*2 ^ g.ae⟩) rfl) Z (by decide) kF (λa3 c3 B3 hB3=>?_);refine aj ?_;refine⟨⟨a3,u.m+1,c3,B3⟩,sM,dH,?_⟩;dsimp only;rw[htk2,Si,JN,SQ,hfx];exact hB3
  ·intro u F2 hF2 hub;rw[RN zo] at hub;have hb2:=hb.mono hF2;refine AW.ay 0 Z Z (λF3 hF3 hB3=>?_);have hrow:=hub.frozen hF3 hB3;have hb3:=hb2.mono hF3;refine aj ?_;refine WT.be hT Z Z Z Z Z Z Z Z Z Z Z Z Z Z (λi89 hi89=>?_);refine WT.bX (R:=cg pE) (ys:=[st.map f]) hT 2 hb3 Z (λ_=>rfl) Z Z Z Z Z Z Z Z Z Z Z (λh0 s0=>bw hT s0 0 Z Z Z Z) (aH.single (R:=cg pE) (x:=st.map f) ⟨_,_,_,rfl,hrow⟩) Z (by decide) kF (λa3 c3 B3 hB3'=>?_);refine aj ?_;refine⟨⟨a3,s.m+1,c3,B3⟩,sM,dH,?_⟩;dsimp only;rw[htk,Si];exact hB3'
 ·intro s F1 hF1 hb;rw[RN zo] at hb;refine AW.ay 0 Z Z (λF2 hF2 hB2=>?_);refine aj ?_;exact AW.ret ⟨_,[],⟨_,_,rfl,rfl,rfl⟩,bY,rfl,_,_,_,rfl,hb.frozen hF2 hB2⟩
section
variable {g:ai}{I:List (List Lr)}{rows:List (List Int)}{L:List (List bQ)}{W:List Nat}
structure JI(g:ai)(I:List (List Lr))(rows:List (List Int))(i k:Nat)(L:List (List bQ))(W:List Nat):Prop where
 la:Pj g I rows L
 st:Started g L
 QA:∀s∈W,s<I.length/\¬BC L s
 Rj:∀s,s≠i->s∈W\/BC L s\/∀y,MZ g rows L s y
 cur:i∈W\/∀k'<k,∀y,(cB g)[k']?=some y->MZ g rows L i y
 ne:¬BC L i
structure KI(g:ai)(I:List (List Lr))(rows:List (List Int))(L:List (List bQ))(W:List Nat):Prop where
 la:Pj g I rows L
 st:Started g L
 QA:∀s∈W,s<I.length/\¬BC L s
 all:∀s,s∈W\/BC L s\/∀y,MZ g rows L s y
theorem JI.skip{i k:Nat}{y:Sym}(h:JI g I rows i k L W)(hy:(cB g)[k]?=some y)(hgo:jP g rows i y=none):JI g I rows i (k+1) L W:=
 ⟨h.la,h.st,h.QA,h.Rj,h.cur.imp id λhc k' hk' y' hy'=>by
   rcases R2 k' k with h1 | h1
   ·exact hc k' h1 y' hy'
   ·obtain rfl:k'=k:=by omega
    rw[hy] at hy';obtain rfl:=BY hy';intro s' st hg2;exact absurd hg2 (by rw[hgo];simp),h.ne⟩
end
end Go.Proofs.D