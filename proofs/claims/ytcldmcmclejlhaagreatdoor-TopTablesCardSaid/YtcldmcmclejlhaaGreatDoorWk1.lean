/-
  Walks: what functions of the program do, over the abstract machine.
-/
import Derived.Test.YtcldmcmclejlhaaGreatDoorWk0
import Derived.Sort.Lot0
set_option linter.unusedVariables false
set_option maxRecDepth 20000
set_option maxHeartbeats 0
open Go Go.Abs Go.Proofs Go.Proofs.D
set_option linter.unusedVariables false
set_option maxRecDepth 20000
set_option maxHeartbeats 0
open Go Go.Abs Go.Proofs Go.Proofs.D
namespace Go.Proofs.D
abbrev ci(x:Nat):Value:=.int .i64 (x:Int)
structure Nl(F:aA)(i1 i2 i3 i4 is ic cap:Nat)(na:Option Addr)(nn nc:Nat)(root:Int):Prop where
 st:F i1=some (.cells false [.slice (some ⟨is,0,none⟩) nn cap])
 f:F i2=some (.cells false [.slice na nn nc,.int .i64 root])
 ct:F i3=some (.cells false [.slice (some ⟨ic,0,none⟩) nn cap])
 self:F i4=some (.cells false [.func (.func 70) ⟨[]⟩ ⟨[.pointer (some ⟨i1,0,none⟩),.pointer (some ⟨i2,0,none⟩),.pointer (some ⟨i3,0,none⟩),.pointer (some ⟨i4,0,none⟩)]⟩])
theorem Nl.mono{F G:aA}{i1 i2 i3 i4 is i cap:Nat}{j:Option Addr}{l o:Nat}{root:Int}(h:Nl F i1 i2 i3 i4 is i cap j l o root)(g:aA.le F G):Nl G i1 i2 i3 i4 is i cap j l o root:=
 ⟨g _ _ h.st,g _ _ h.f,g _ _ h.ct,g _ _ h.self⟩
structure GG(Ns:List Node)(st ct:List Nat):Prop where
 l1:st.length=Ns.length
 l2:ct.length=Ns.length
 zero:∀u:Nat,st[u]?=some 0->ct[u]?=some 0
 done:∀u:Nat,st[u]?=some 2->∃c,jl (λd=>bG Ns d u) c/\ct[u]?=some (min c dV)
 dm:∀(u x:Nat),st[u]?=some x->x<=2
 Rj:∀(u x:Nat),ct[u]?=some x->x<=dV
structure D9(Ns:List Node)(st ct st' ct':List Nat)(v:Nat):Prop where
 inv:GG Ns st' ct'
 at_:st'[v]?=some 2
 dy:∀(u x:Nat),st[u]?=some x->x≠0->st'[u]?=some x/\ct'[u]?=ct[u]?
 new:∀u:Nat,st'[u]?=some 1->st[u]?=some 1
 s7:st'.count 0<=st.count 0
def tO(is g:Nat)(st i:List Nat):List (Nat×aJ):=[(is,.cells false (st.map ci)),(g,.cells false (i.map ci))]
structure QY(Ns:List Node):Prop where
 Eo:Ns.length<=1000000
 cr:∀x∈Ns,x.cr.length<=1000000
 Nb:∀u v,Nr Ns u v->u<Ns.length
structure mL(Ns:List Node)(st ct:List Nat)(v:Nat)(s c:List Nat)(val:Nat):Prop where
 inv:GG Ns s c
 at_:s[v]?=some 1
 dy:∀(u y:Nat),st[u]?=some y->y≠0->s[u]?=some y/\c[u]?=ct[u]?
 new:∀u:Nat,s[u]?=some 1->u=v\/st[u]?=some 1
 s7:s.count 0<st.count 0
 val:c[v]?=some (min val dV)
theorem mL.visit{Ns:List Node}{st i:List Nat}{v:Nat}{s c s' j:List Nat}{val u:Nat}(h:mL Ns st i v s c val)(g:D9 Ns s c s' j u):mL Ns st i v s' j val where
 inv:=g.inv
 at_:=(g.dy v 1 h.at_ (by decide)).1
 dy:=λu y h1 l=>by
  obtain⟨o,p⟩:=h.dy u y h1 l;obtain⟨r,t⟩:=g.dy u y o l;exact⟨r,t.trans p⟩
 new:=λu h1=>h.new u (g.new u h1)
 s7:=VL g.s7 h.s7
 val:=by rw[(g.dy v 1 h.at_ (by decide)).2];exact h.val
noncomputable def sH(Ns:List Node)(u:Nat):Nat:=Nw λd=>bG Ns d u
theorem GG.lim{Ns:List Node}{s c:List Nat}(h:GG Ns s c){u:Nat}(hu:s[u]?=some 2):jl (λd=>bG Ns d u) (sH Ns u)/\c[u]?=some (min (sH Ns u) dV):=by
 obtain⟨x,h1,g⟩:=h.done u hu;have i:=h1.lim;have e:Nw (λd=>bG Ns d u)=x:=i.uniq h1;unfold sH;rw[e];exact⟨h1,g⟩
theorem mL.start{Ns:List Node}{st l:List Nat}{v:Nat}(g:GG Ns st l)(o:v<Ns.length)(r:st[v]?=some 0)(i:(st.set v 1).count 0<st.count 0)(x:Nat)(j:x<=1):mL Ns st l v (st.set v 1) (l.set v x) x where
 inv:=by
  have l1:=g.l1;have l2:=g.l2;refine⟨by simp[g.l1],by simp[g.l2],λu hu=>?_,λu hu=>?_,λu y hu=>?_,λu y hu=>?_⟩
  ·by_cases e:u=v
   ·subst e;rw[xk zo] at hu;cases hu
   ·rw[yf (Ne.symm e)] at hu ⊢;exact g.zero u hu
  ·by_cases e:u=v
   ·subst e;rw[xk zo] at hu;cases hu
   ·rw[yf (Ne.symm e)] at hu ⊢;exact g.done u hu
  ·by_cases e:u=v
   ·subst e;rw[xk zo] at hu;cases hu;decide
   ·rw[yf (Ne.symm e)] at hu;exact g.dm u y hu
  ·by_cases e:u=v
   ·subst e;rw[xk zo] at hu;cases hu;exact AS j (by decide)
   ·rw[yf (Ne.symm e)] at hu;exact g.Rj u y hu
 at_:=by rw[xk (by rw[g.l1];exact o)]
 dy:=λu y h1 t=>by
  have e:u≠v:=by rintro rfl;rw[r] at h1;exact t (aE h1).symm
  rw[yf (Ne.symm e),yf (Ne.symm e)];exact⟨h1,rfl⟩
 new:=λu h1=>by
  by_cases e:u=v
  ·exact .inl e
  ·rw[yf (Ne.symm e)] at h1;exact .inr h1
 s7:=i
 val:=by
  rw[xk (by rw[g.l2];exact o)];rw[Ul (AS j (by decide))]
theorem mL.bump{Ns:List Node}{st g:List Nat}{v:Nat}{s c:List Nat}{val:Nat}(h:mL Ns st g v s c val)(j:st[v]?=some 0)(x:Nat):mL Ns st g v s (c.set v (min (min val dV+min x dV) dV)) (val+x) where
 inv:=by
  have l2:=h.inv.l2;have l:v<c.length:=(gS h.val).1;refine⟨h.inv.l1,by simp[l2],λu hu=>?_,λu hu=>?_,h.inv.dm,λu y hu=>?_⟩
  ·have e:u≠v:=by rintro rfl;rw[h.at_] at hu;cases hu
   rw[yf (Ne.symm e)];exact h.inv.zero u hu
  ·have e:u≠v:=by rintro rfl;rw[h.at_] at hu;cases hu
   rw[yf (Ne.symm e)];exact h.inv.done u hu
  ·by_cases e:u=v
   ·subst e;rw[xk l] at hu;cases hu;exact VD _ _
   ·rw[yf (Ne.symm e)] at hu;exact h.inv.Rj u y hu
 at_:=h.at_
 dy:=λu y h1 i=>by
  have e:u≠v:=by rintro rfl;rw[j] at h1;exact i (aE h1).symm
  rw[yf (Ne.symm e)];exact h.dy u y h1 i
 new:=h.new
 s7:=h.s7
 val:=by rw[xk (gS h.val).1,NX]
theorem mL.finish{Ns:List Node}{st i:List Nat}{v:Nat}{s c:List Nat}{val:Nat}(h:mL Ns st i v s c val)(l:st[v]?=some 0)(hs:jl (λd=>bG Ns d v) val):D9 Ns st i (s.set v 2) c v:=by
 have g:v<s.length:=(gS h.at_).1;refine⟨⟨by simp[h.inv.l1],h.inv.l2,λu hu=>?_,λu hu=>?_,λu y hu=>?_,h.inv.Rj⟩,by rw[xk g],λu y h1 j=>?_,λu h1=>?_,?_⟩;{by_cases e:u=v;{subst e;rw[xk g] at hu;cases hu};{rw[yf (Ne.symm e)] at hu;exact h.inv.zero u hu}};{by_cases e:u=v;{subst e;exact⟨val,hs,h.val⟩};{rw[yf (Ne.symm e)] at hu;exact h.inv.done u hu}};{by_cases e:u=v;{subst e;rw[xk g] at hu;cases hu;decide};{rw[yf (Ne.symm e)] at hu;exact h.inv.dm u y hu}};{have e:u≠v:=by{rintro rfl;rw[l] at h1;exact j (aE h1).symm};rw[yf (Ne.symm e)];exact h.dy u y h1 j};{by_cases e:u=v;{subst e;rw[xk g] at h1;cases h1};{rw[yf (Ne.symm e)] at h1;rcases h.new u h1 with h3 | h3;{exact absurd h3 e};{exact h3}}};{have:=List.count_set (a:=2) (b:=0) g;have o:s[v]=1:=by{have:=h.at_;rw[gE g] at this;exact aE this};rw[this,o];simp;exact TC h.s7}
structure Sm where
 st:List Nat
 ct:List Nat
 x:Nat
theorem Gg{l:List Nat}{v x:Nat}(h:l[v]?=some x):(l.map ci)[0+v*1]?=some (ci x):=by
 rw[AI,Tp,zy,h];rfl
theorem CY(l:List Nat)(v x:Nat):(l.map ci).set (0+v*1) (ci x)=(l.set v x).map ci:=by
 rw[AI,Tp,T9]
theorem yM{i1 i2 i3 i4 is ic cap:Nat}{na:Option Addr}{nn nc:Nat}{root:Int}{Ns:List Node}(P:QY Ns) :
  ∀(N:Nat) (F:aA) (hC:Nl F i1 i2 i3 i4 is ic cap na nn nc root) (hN:bk wv F na nn nc Ns) (st ct:List Nat) (hI:GG Ns st ct) (hz:st.count 0<N) (v:Nat) (hv:v<Ns.length) (t:∀u:Nat,st[u]?=some 1->Path Ns u v),
  Abs.Spec CC 70 [.int .i64 v,.pointer (some ⟨i1,0,none⟩),.pointer (some ⟨i2,0,none⟩),.pointer (some ⟨i3,0,none⟩),.pointer (some ⟨i4,0,none⟩)] F [tO is ic st ct]
   λF' r o=>∃B',o=[B']/\∃R U b,B'=tO is ic R U/\r=.bool b/\(b=true->D9 Ns st ct R U v)/\(b=false->∃u,(u=v\/Path Ns v u)/\Path Ns u u)
 | 0,F,hC,hN,st,ct,hI,hz,v,hv,t=>absurd hz (T6 _)
 | N+1,F,hC,hN,st,ct,hI,hz,v,hv,t=>by{obtain⟨h1,h2,h3,h4⟩:=id hC;have df:=hN.len;have c1:=P.Eo;unfold tO;obtain⟨x,J⟩:∃x,st[v]?=some x:=⟨_,gE (by rw[hI.l1];exact hv)⟩;have a8:=hI.dm v x J;refine Abs.Spec.fn (n:=77) Tryz.func70 rfl rfl λown=>?_;refine aq ?_;refine WT.cH (j:=v) (s:=1) hT Z Z Z Z Z Z Z Z Z zo (WT.loadAt hT 0 Z Z Z Z Z Z me Z Z (Gg J) (aq ?_));refine AW.cond Z (λh=>?_) (λh=>?_);{have h:0<x:=by{simp at h;omega};refine aq ?_;refine WT.cH (j:=v) (s:=1) hT Z Z Z Z Z Z Z Z Z zo (WT.loadAt hT 0 Z Z Z Z Z Z me Z Z (Gg J) (aq ?_));refine AW.ret ⟨_,[_],⟨_,_,rfl,rfl,rfl⟩,bF,_,rfl,st,ct,_,rfl,rfl,λhb=>?_,λhb=>?_⟩;{have hb:x=2:=by{simp at hb;omega};subst hb;exact⟨hI,J,λu y h1 _=>⟨h1,rfl⟩,λu h=>h,mc _⟩};{have hb:x=1:=by{simp at hb;omega};subst hb;exact⟨v,.inl rfl,t v J⟩}};{have h:x=0:=by{simp at h;omega};subst h;have ao:v<st.length:=by{rw[hI.l1];exact hv};have a9:v<ct.length:=by{rw[hI.l2];exact hv};have ba:(st.set v 1).count 0<st.count 0:=by{have:=List.count_set (a:=1) (b:=0) ao;have h5:st[v]=0:=by{rw[gE ao] at J;exact aE J};have h6:0<st.count 0:=List.count_pos_iff.2 (gM J);rw[this,h5];simp;omega};obtain⟨nd,aa⟩:∃nd,Ns[v]?=some nd:=⟨_,gE hv⟩;have c3:=P.cr nd (gM aa);refine aq ?_;refine WT.cH (j:=v) (s:=1) hT Z Z Z Z Z Z Z Z Z zo (WT.storeAt hT 0 0 Z Z Z Z Z Z Z Z Z Z (by simp;omega) Z Z ?_);rw[show (st.map ci).set (0+v*1) (.int .i64 1)=(st.set v 1).map ci from CY st v 1];refine aq ?_;refine WT.bh hT hN Z Z Z Z Z Z Z Z Z zo (λg ag b5 c4 dk dq dr ds d0 ar=>?_);obtain rfl:g=nd:=by{rw[aa] at ag;exact(aE ag).symm};obtain⟨pa,pn,pc,rfl,bc⟩:=ar;have c5:=bc.len;refine aq ?_;refine WT.az hT Z Z Z Z Z Z (λi7 d1=>?_);refine aq ?_;refine AW.Q1 (S:=Unit) (λ_=>[]) (λ_=>[(i7,.cells false [.bool g.key.sym.term,.int .i64 g.key.sym.n,.int .i64 g.key.fJ,.int .i64 g.key.to,.slice pa pn pc])]::tO is ic (st.set v 1) (ct.set v (kC g))::own) (λ_ _=>True) ?_ (λ_ F1 av _=>?_);{refine AW.cond Z (λh=>?_) (λh=>?_);{have hle:kC g=1:=by{unfold kC;rw[n0 h]};refine aq ?_;refine WT.cH (j:=v) (s:=1) hT Z Z Z Z Z Z Z Z Z zo (WT.storeAt hT 1 1 Z Z Z Z Z Z Z Z Z Z (by simp;omega) Z Z (aq ?_));refine⟨(),sM,?_,trivial⟩;rw[hle];unfold tO;rw[<-show (ct.map ci).set (0+v*1) (.int .i64 1)=(ct.set v 1).map ci from CY ct v 1];exact ah.refl _};{have hle:kC g=0:=by{unfold kC;rw[nw (by simpa using h)]};refine aq ?_;refine⟨(),sM,?_,trivial⟩;have h0:ct.set v 0=ct:=by{apply Tn;intro j;by_cases hj:j=v;{subst hj;rw[xk a9,hI.zero _ J]};{rw[yf (Ne.symm hj)]}};rw[hle,h0];exact ah.refl _}};{have bd:=hC.mono av;have b2:=hN.mono av;have bf:=bc.mono av;refine aq ?_;refine AW.range (S:=Sm) (λ_=>[]) (λz=>[(i7,.cells false [.bool g.key.sym.term,.int .i64 g.key.sym.n,.int .i64 g.key.fJ,.int .i64 g.key.to,.slice pa pn pc])]::tO is ic z.st z.ct::own) (λj z G=>mL Ns st ct v z.st z.ct (kC g+((g.cr.take j).map (j6 (sH Ns))).sum)/\∀p∈g.cr.take j,∀u∈p.kids,z.st[u]?=some 2) pn ⟨st.set v 1,ct.set v (kC g),0⟩ Z Z Z Z Z Z Z Z Z zo rfl rfl (λ_=>rfl) (λ_=>rfl) sM oR ⟨by simpa using mL.start hI hv J ba (kC g) (by unfold kC;split<;>omega),by simp⟩ ?_ ?_;{intro j z F2 ab hj i;obtain⟨i,ae⟩:=i;have ax:=bd.mono ab;have b3:=b2.mono ab;have bi:=bf.mono ab;refine aq ?_;refine WT.bh hT bi Z Z Z Z Z Z Z Z Z zo (λp ay b6 c6 d4 d5 d6 d7 d8 a0=>?_);obtain⟨ka,kn,kc,rfl,bn,eb⟩:=a0;have c8:=bn.len;have b4:=gM ay;refine aq ?_;refine WT.az hT Z Z Z Z Z Z (λi9 ec=>?_);refine aq ?_;refine AW.range (S:=Sm) (λz=>[(10,.int .i64 (z.x:Nat))]) (λz=>[(i9,.cells false [.int .i64 p.aB,.slice ka kn kc])]::[(i7,.cells false [.bool g.key.sym.term,.int .i64 g.key.sym.n,.int .i64 g.key.fJ,.int .i64 g.key.to,.slice pa pn pc])]::tO is ic z.st z.ct::own) (λq z G=>mL Ns st ct v z.st z.ct (kC g+((g.cr.take j).map (j6 (sH Ns))).sum)/\(∀p∈g.cr.take j,∀u∈p.kids,z.st[u]?=some 2)/\(∀u∈p.kids.take q,z.st[u]?=some 2)/\z.x=min (fR ((p.kids.take q).map (sH Ns))) dV) kn ⟨z.st,z.ct,1⟩ Z Z Z Z Z Z Z Z Z zo rfl rfl (λ_=>rfl) (λ_=>rfl) sM oR ⟨i,ae,by simp,by simp[fR];decide⟩ ?_ ?_;{intro q y F3 C hq hy;obtain⟨l,a1,af,I⟩:=hy;obtain⟨g1,g2,g3,g4⟩:=id (ax.mono C);have b9:=b3.mono C;have bo:=bn.mono C;refine aq ?_;refine WT.bh hT bo Z Z Z Z Z Z Z Z Z zo (λu a2 b8 dd ee eg ca eh em a3=>?_);obtain rfl:ca=_:=a3;have hkid:Nr Ns u v:=⟨g,p,aa,b4,gM a2⟩;refine aq ?_;refine WT.qP 2 Tryz.func70 Z Z Z Z Z Z Z Z Z (λ_=>rfl) (yM P N F3 (ax.mono C) b9 y.st y.ct l.inv (by have:=l.s7;omega) u (P.Nb u v hkid) (λu' hu'=>?_)) (λF4 r B4 cc hr=>?_);{rcases l.new u' hu' with rfl | h5;{exact .one hkid};{exact .step (t u' h5) hkid}};{obtain⟨R,U,bb,rfl,rfl,cf,ch⟩:=hr;cases bb with| false=>{(refine aq ?_;refine AW.cond Z (λ_=>?_) (λe=>(by cases e));refine aq ?_;refine AW.ret ⟨_,[_],⟨_,_,rfl,rfl,rfl⟩,bF,_,rfl,R,U,false,rfl,rfl,λe=>(by cases e),λ_=>?_⟩;obtain⟨x1,hx1,a8⟩:=ch rfl;refine⟨x1,.inr ?_,a8⟩;rcases hx1 with rfl | hx1);{exact .one hkid};{exact Path.trans (.one hkid) hx1}}| true=>{have hV:=cf rfl;obtain⟨es,cj⟩:=hV.inv.lim hV.at_;have cn:=l.visit hV;have et:u<Ns.length:=P.Nb u v hkid;have cp:y.x<=dV:=by{rw[I];exact VD _ _};have cs:dV=1000000000:=rfl;have ev:min (sH Ns u) dV<=dV:=VD _ _;have ex:y.x*min (sH Ns u) dV<=1000000000*1000000000:=UT zo zo;unfold tO;have g3:=cc _ _ g3;refine aq ?_;refine AW.cond Z (λe=>(by cases e)) (λ_=>?_);refine aq ?_;refine WT.cH (j:=u) (s:=1) hT Z Z Z Z Z Z Z Z Z zo (WT.loadAt hT 2 Z Z Z Z Z Z (mb _ me) Z Z (Gg cj) (WT.OD Z Z Z Z Z Z zo (WT.gn (v':=.int .i64 ((y.x*min (sH Ns u) dV:Nat):Int)) 60 Z (by congr 1) (WT.PV (x:=y.x*min (sH Ns u) dV) (y:=dV) Z Z Z Z Z Z (aq ?_)))));refine⟨⟨R,U,min (y.x*min (sH Ns u) dV) dV⟩,sM,ah.refl _,cn,λp' hp' u' hu'=>(hV.dy u' 2 (a1 p' hp' u' hu') (by decide)).1,λu' hu'=>?_,?_⟩;{rw[yo,a2] at hu';rcases D1.1 hu' with hu' | hu';{exact(hV.dy u' 2 (af u' hu') (by decide)).1};{obtain rfl:=ti.1 hu';exact hV.at_}};{dsimp only;rw[yo,a2,Th,Co,I,NG];simp[fR]}}}};{intro y F3 C hy;obtain⟨l,a1,af,I⟩:=hy;rw[qs zo] at af I;obtain⟨g1,g2,g3,g4⟩:=id (ax.mono C);have cs:dV=1000000000:=rfl;have cp:y.x<=dV:=by{rw[I];exact VD _ _};have ao:min (kC g+((g.cr.take j).map (j6 (sH Ns))).sum) dV<=dV:=VD _ _;have ey:=l.inv.l2;unfold tO;refine aq ?_;refine WT.cH (j:=v) (s:=1) hT Z Z Z Z Z Z Z Z Z zo (WT.loadAt hT 2 Z Z Z Z Z Z (mb _ me) Z Z (Gg l.val) (aq ?_));obtain⟨vv,bs⟩:∃vv,min (kC g+((g.cr.take j).map (j6 (sH Ns))).sum) dV=vv:=⟨_,rfl⟩;rw[bs];refine WT.gn (v':=.int .i64 ((vv+y.x:Nat):Int)) 70 Z (by congr 1) (WT.PV (x:=vv+y.x) (y:=dV) Z Z Z Z Z Z (WT.cH (j:=v) (s:=1) hT Z Z Z Z Z Z Z Z Z zo (WT.storeAt hT 2 1 Z Z Z Z Z Z Z Z Z Z (by simp;omega) Z Z ?_)));rw[show (y.ct.map ci).set (0+v*1) (.int .i64 ((Nat.min (vv+y.x) dV:Nat):Int))=(y.ct.set v (min (vv+y.x) dV)).map ci from CY y.ct v _];refine aq ?_;refine⟨⟨y.st,y.ct.set v (min (vv+y.x) dV),0⟩,sM,ah.skip _ oR,?_,λp' hp' u' hu'=>?_⟩;{dsimp only;rw[yo,ay,<-bs,I,Th,Uw,<-UJ];have:=l.bump J (j6 (sH Ns) p);simpa [j6] using this};{rw[yo,ay] at hp';rcases D1.1 hp' with hp' | hp';{exact a1 p' hp' u' hu'};{obtain rfl:=ti.1 hp';exact af u' hu'}}}};{intro z F2 ab i;obtain⟨i,ae⟩:=i;rw[qs zo] at i ae;obtain⟨g1,g2,g3,g4⟩:=id (bd.mono ab);have e0:=i.inv.l1;unfold tO;refine aq ?_;refine WT.cH (j:=v) (s:=1) hT Z Z Z Z Z Z Z Z Z zo (WT.storeAt hT 1 0 Z Z Z Z Z Z Z Z Z Z (by simp;omega) Z Z ?_);rw[show (z.st.map ci).set (0+v*1) (.int .i64 2)=(z.st.set v 2).map ci from CY z.st v 2];refine aq ?_;refine AW.ret ⟨_,[_],⟨_,_,rfl,rfl,rfl⟩,bF,_,rfl,z.st.set v 2,z.ct,true,rfl,rfl,λ_=>?_,λe=>(by cases e)⟩;refine i.finish J (Hq aa (sH Ns) λu hu=>?_);obtain⟨x',p',h5,h6,h7⟩:=hu;rw[aa] at h5;obtain rfl:=aE h5;exact(i.inv.lim (ae p' h6 u h7)).1}}}}
def Prod(Ns:List Node):Prop:=∀v,v<Ns.length->∃d,1<=bG Ns d v
theorem Ag(F:aA){Ns:List Node}(t:QY Ns)(hpr:Prod Ns){na:Option Addr}{i nc:Nat}(hN:bk wv F na i nc Ns)(root:Nat)(I:root<Ns.length) :
  Abs.Spec CC 34 [.agg ⟨[.slice na i nc,.int .i64 root]⟩] F [] λF' r o=>o=[]/\∃c,r=.int .i64 c/\j7 (λd=>bG Ns d root) c:=by
 have a4:=hN.len;have a2:=t.Eo;refine Abs.Spec.fn (n:=28) Tryz.func34 rfl rfl λown=>?_;refine AW.seq (AW.fp ?_);refine WT.bN Z Z Z Z Z Z (λi1 a5=>?_);refine aq ?_;refine AW.cond Z (λh=>(by simp at h;omega)) (λ_=>?_);refine aq ?_;refine WT.oH (l:=i) hT Z Z Z Z Z Z Z Z Z Z Z Z fj (λic a6=>?_);rw[lA];refine WT.az hT Z Z Z Z Z Z (λi3 a7=>?_);refine aq ?_;refine WT.oH (l:=i) hT Z Z Z Z Z Z Z Z Z Z Z Z fj (λis a8=>?_);rw[lA];refine WT.az hT Z Z Z Z Z Z (λi4 a9=>?_);refine qo ?_;refine WT.az hT Z Z Z Z Z Z (λi5 ba=>?_);refine qo ?_;refine WT.aw 0 Z Z (λG1 ab ac=>?_);refine WT.aw 1 Z Z (λG2 P ad=>?_);refine WT.aw 3 Z Z (λG3 J ae=>?_);refine WT.aw 5 Z Z (λG4 C af=>?_);have f5:=C _ _ (J _ _ (P _ _ (ac i5 _ me)));have f4:=C _ _ (J _ _ (ad i4 _ me));have f3:=C _ _ (ae i3 _ me);have f1:=af i1 _ me;have hG:=ab.trans (P.trans (J.trans C));have e0:tO is ic (List.replicate i 0) (List.replicate i 0)=[(is,.cells false (List.replicate i (.int .i64 0))),(ic,.cells false (List.replicate i (.int .i64 0)))]:=by{unfold tO;rw[U8];rfl};refine WT.le (own2:=tO is ic (List.replicate i 0) (List.replicate i 0)::own) (by rw[e0];exact ah.flat (sh _)) ?_;have g:∀(u x:Nat),(List.replicate i 0)[u]?=some x->x=0:=λu x h=>Ub (gM h);have ag:GG Ns (List.replicate i 0) (List.replicate i 0):=by{refine⟨by simp;omega,by simp;omega,λu h=>h,λu h=>?_,λu x h=>?_,λu x h=>?_⟩;{have:=g u 2 h;omega};{rw[g u x h];omega};{rw[g u x h];exact If _}};refine WT.qP 0 Tryz.func70 Z Z Z Z Z Z Z Z Z (λ_=>rfl) (yM t _ G4 ⟨f4,f1,f3,f5⟩ (hN.mono hG) _ _ ag (TD _) root I (λu h=>by have:=g u 1 h;omega)) (λF4 r B4 R hr=>?_);obtain⟨bn,bo,bb,rfl,rfl,al,an⟩:=hr;have f1:=R _ _ f1;have f3:=R _ _ f3;cases bb with| false=>{(refine aq ?_;refine AW.cond Z (λ_=>?_) (λe=>(by cases e));refine aq ?_;refine AW.ret ⟨_,[],⟨_,_,rfl,rfl,rfl⟩,bF,rfl,-1,rfl,.inr ⟨?_,rfl⟩⟩;obtain⟨u,hu1,ao⟩:=an rfl;obtain⟨z,U,ar⟩:=Bn hpr t.Nb ao;refine DM hpr t.Nb ?_ ar;rcases hu1 with rfl | hu1);{exact U};{exact hu1.trans U}}| true=>{have hV:=al rfl;obtain⟨av,ax⟩:=hV.inv.lim hV.at_;unfold tO;refine aq ?_;refine AW.cond Z (λe=>(by cases e)) (λ_=>?_);refine aq ?_;refine WT.cH (j:=root) (s:=1) hT Z Z Z Z Z Z Z Z Z zo (WT.loadAt hT 0 Z Z Z Z Z Z (mb _ me) Z Z (Gg ax) (aq ?_));exact AW.ret ⟨_,[],⟨_,_,rfl,rfl,rfl⟩,bF,rfl,_,rfl,.inl ⟨_,av,rfl⟩⟩}
def fw(f:Sym->Nat->Nat->Nat):List Sym->Nat->Nat->Nat
 | [],i,j=>if i=j then 1 else 0
 | s::l,i,j=>((List.range (j+1)).map λm=>f s i m*fw f l m j).sum
def fm(g:aj)(w:List Nat):Nat->Sym->Nat->Nat->Nat
 | 0,_,_,_=>0
 | d+1,s,i,j=>if s.term=true then (if w[i]?=some s.n/\j=i+1 then 1 else 0)
   else (g.rules.map λr=>if r.left=s.n then fw (fm g w d) r.right i j else 0).sum
theorem tN{l:List Nat}(h:1<=l.sum):∃x∈l,1<=x:=by
 induction l with| nil=>{simp at h}| cons a l g=>{by_cases i:1<=a;{exact⟨a,D2 ..,i⟩};{rw[TL] at h;obtain⟨x,j,o⟩:=g zo;exact⟨x,mb _ j,o⟩}}
theorem CD{g:aj}{w:List Nat}{f:Sym->Nat->Nat->Nat}(o:∀s i j,1<=f s i j->vu g w s i j):∀{l:List Sym} {i j:Nat},1<=fw f l i j->v7 g w l i j
 | [],i,j,h=>by{unfold fw at h;split at h;{rename_i e;subst e;exact .nil};{omega}}
 | s::l,i,j,h=>by{unfold fw at h;obtain⟨x,r,p⟩:=tN h;obtain⟨m,_,rfl⟩:=x6.1 r;have t:1<=f s i m:=by{rcases Ts (f s i m) with e | e;{rw[e,Wa] at p;omega};{exact e}};have C:1<=fw f l m j:=by{rcases Ts (fw f l m j) with e | e;{rw[e,Nat.mul_zero] at p;omega};{exact e}};exact .cons (o s i m t) (CD o C)}
theorem uM{g:aj}{w:List Nat}:∀{d:Nat} {s:Sym} {i j:Nat},1<=fm g w d s i j->vu g w s i j
 | 0,s,i,j,h=>absurd h (by simp[fm])
 | d+1,s,i,j,h=>by{obtain⟨st,sn⟩:=s;unfold fm at h;cases st with| true=>{simp only[TY] at h;split at h;{rename_i e;obtain⟨o,rfl⟩:=e;exact .term o};{omega}}| false=>{simp only[TT,Un] at h;obtain⟨x,p,l⟩:=tN h;obtain⟨r,t,rfl⟩:=x6.1 p;split at l;{rename_i e;subst e;exact .HM t (CD (λs i j h=>uM h) l)};{omega}}}
theorem sd{f h:Sym->Nat->Nat->Nat}(g:∀s i j,f s i j<=h s i j):∀(l:List Sym) (i j:Nat),fw f l i j<=fw h l i j
 | [],i,j=>mc _
 | s::l,i,j=>uJ _ λm _=>UT (g s i m) (sd g l m j)
theorem ve(g:aj)(w:List Nat):∀(d:Nat) (s:Sym) (i j:Nat),fm g w d s i j<=fm g w (d+1) s i j
 | 0,s,i,j=>If _
 | d+1,s,i,j=>by{show fm g w (d+1) s i j<=fm g w (d+1+1) s i j;unfold fm;split;{exact mc _};{refine uJ _ λr _=>?_;split;{exact sd (λs i j=>ve g w d s i j) _ _ _};{exact mc _}}}
theorem DX(g:aj)(w:List Nat){d e:Nat}(h:d<=e)(s:Sym)(i j:Nat):fm g w d s i j<=fm g w e s i j:=by
 induction e with| zero =>{obtain rfl : d = 0 := by{omega};exact mc _}| succ e l=>{rcases IN d (e+1) with h2 | h2;{exact AS (l zo) (ve g w e s i j)};{obtain rfl:d=e+1:=by{omega};exact mc _}}
theorem Ew{g:aj}{w:List Nat}{s:Sym}{i j:Nat}(h:vu g w s i j):∃d,1<=fm g w d s i j:=by
 refine vu.rec (motive_1:=λs i j _=>∃d,1<=fm g w d s i j) (motive_2:=λl i j _=>∃d,1<=fw (fm g w d) l i j) ?_ ?_ ?_ ?_ h;{intro t i h;exact⟨1,by unfold fm;simp[h]⟩};{intro r i j J _ P;obtain⟨d,R⟩:=P;refine⟨d+1,?_⟩;unfold fm;simp only[TT,Un];refine AS ?_ (uu (f:=λI:bY=>if I.left=r.left then fw (fm g w d) I.right i j else 0) J);simpa using R};{intro i;exact⟨0,by simp[fw]⟩};{intro s l i m j h1 U o C;obtain⟨d1,h3⟩:=o;obtain⟨d2,h4⟩:=C;have ac:=IF U;refine⟨max d1 d2,?_⟩;unfold fw;refine AS ?_ (uu (f:=λm=>fm g w (max d1 d2) s i m*fw (fm g w (max d1 d2)) l m j) (Tz.2 (show m<j+1 by omega)));exact UT (AS h3 (DX g w zo s i m)) (AS h4 (sd (λs i j=>DX g w zo s i j) l m j))}
theorem EG{α β:Type}(f:α->List β)(h:β->Nat):∀l:List α,((l.flatMap f).map h).sum=(l.map λa=>((f a).map h).sum).sum
 | []=>rfl
 | a::l=>by rw[Ur,Th,Uw,y2,TL,EG f h l]
theorem y5{w:List Nat}{E:List (List Nat)}{to:Nat}{f:Sym->Nat->Nat->Nat}(g:∀s i m,fZ w E s i m=false->i<=w.length->m<=to->f s i m=0)(j:to<=w.length):∀(l:List Sym) (i:Nat),i<=w.length->
  ((splits w E to l i).map λks=>fR (ks.map λq=>f q.sym q.fJ q.to)).sum=fw f l i to
 | [],i,hi=>by{unfold splits fw;split<;>simp[fR]}
 | s::l,i,hi=>by{unfold splits fw;rw[EG];congr 1;apply Uc;intro m hm;have hm:=Tz.1 hm;split;{rw[Us,<-y5 g j l m zo];clear g;generalize splits w E to l m=L;induction L with| nil=>{simp}| cons a L o=>{simp only[y2,TL,Function.comp_apply,fR,Nat.mul_add];simp only[Function.comp_def] at o;rw[<-o];simp[Function.comp_def,fR]}};{rename_i h;rw[g s i m (by simpa using h) hi zo];simp}}
theorem Cy{α:Type}(h:α->Nat)(f:Nat->bY->List α):∀(rs:List bY) (k:Nat),(((List.range rs.length).flatMap λi=>match rs[i]? with | some r=>f (k+i) r | none=>[]).map h).sum=(rs.zipIdx k |>.map λp=>((f p.2 p.1).map h).sum).sum
 | [],k=>by simp
 | r::rs,k=>by{have g:=Cy h f rs (k+1);rw[IT,List.range_succ_eq_map,Ur,Th,Uw,List.zipIdx_cons,y2,TL,<-g];simp only[UL,UA,List.flatMap_map];congr 4;funext i;simp only[Ug,Nat.succ_eq_add_one];rw[show k+(i+1)=k+1+i by omega]}
theorem Iz{f:bY->Nat}:∀(rs:List bY) (k:Nat),(rs.zipIdx k |>.map λp=>f p.1).sum=(rs.map f).sum
 | [],k=>by simp
 | r::rs,k=>by rw[List.zipIdx_cons,y2,y2,TL,TL,Iz rs (k+1)]
def yk(w:List Nat)(E:List (List Nat))(k:Key):Prop:=fZ w E k.sym k.fJ k.to=true
theorem xe{w:List Nat}{E:List (List Nat)}{to:Nat}:∀{l:List Sym} {i:Nat} {ks:List Key},ks∈splits w E to l i->∀q∈ks,yk w E q
 | [],i,ks,h,q,hq=>by{unfold splits at h;split at h;{rw[ti.1 h] at hq;cases hq};{cases h}}
 | s::l,i,ks,h,q,hq=>by{unfold splits at h;obtain⟨m,_,hm⟩:=Up.1 h;split at hm;{rename_i hs;obtain⟨g,j,rfl⟩:=x6.1 hm;rcases PJ.1 hq with rfl | hq;{exact hs};{exact xe j q hq}};{cases hm}}
theorem dZ.step{g:aj}{w:List Nat}{E:List (List Nat)}{root k:Key}(h:dZ g w E root k)(i:yk w E root):yk w E k:=by
 cases h with| root=>{exact i}| Nb _ hp j=>{obtain⟨r,_,_,_,l⟩:=dJ.1 hp;exact xe l _ j}
theorem nh{g:aj}{w:List Nat}{E:List (List Nat)}(l:gN g w E){s:Sym}{i j:Nat}(hi:i<=w.length):fZ w E s i j=true↔vu g w s i j:=by
 rw[mQ];unfold Step;obtain⟨b,n⟩:=s;cases b with| true=>{simp only[TY];rw[Mb]}| false=>{simp only[TT,Un];exact l.iff n i j hi}
theorem JC{g:aj}{w:List Nat}{E:List (List Nat)}{k:Key}(hk:k.sym.term=false){f:Sym->Nat->Nat->Nat}(l:∀s i m,fZ w E s i m=false->i<=w.length->m<=k.to->f s i m=0)(hi:k.fJ<=w.length)(j:k.to<=w.length) :
  ((bT g w E k).map λp=>fR (p.kids.map λq=>f q.sym q.fJ q.to)).sum=(g.rules.map λr=>if r.left=k.sym.n then fw f r.right k.fJ k.to else 0).sum:=by
 have e:bT g w E k=(List.range g.rules.length).flatMap λi=>match g.rules[i]? with | some r=>(if r.left=k.sym.n/\k.sym.term=false then (splits w E k.to r.right k.fJ).map (gh.mk (0+i)) else []) | none=>[]:=by{unfold bT;congr 1;funext i;unfold db;rw[AI];cases g.rules[i]?<;>rfl};rw[e];refine(Cy (λp:gh=>fR (p.kids.map λq=>f q.sym q.fJ q.to)) (λi r=>if r.left=k.sym.n/\k.sym.term=false then (splits w E k.to r.right k.fJ).map (gh.mk i) else []) g.rules 0).trans ?_;rw[<-Iz g.rules 0];congr 1;apply Uc;intro p _;by_cases h:p.1.left=k.sym.n;{rw[n0 ⟨h,hk⟩,n0 h,<-y5 l j p.1.right k.fJ hi,Us];rfl};{rw[nw (λo=>h o.1),nw h];rfl}
theorem uT{g:aj}(U:Valid g){w:List Nat}{E:List (List Nat)}(hE:gN g w E){root:Key}{S:List Key}(J:rq g w E root S)(j:gC g w root)(r:yk w E root) :
  ∀(d:Nat) (k:Key),k∈S->bG (S.map (mkNode g w E S)) d (place S k)=fm g w d k.sym k.fJ k.to
 | 0,k,_=>rfl
 | d+1,k,hk=>by{have l:=(J.reach k hk).Es U j;have o:=(J.reach k hk).step r;have P:(S.map (mkNode g w E S))[place S k]?=some (mkNode g w E S k):=by{rw[zy,iV hk];rfl};have t:((mkNode g w E S k).cr.map (j6 (bG (S.map (mkNode g w E S)) d))).sum=((bT g w E k).map λp=>fR (p.kids.map λq=>fm g w d q.sym q.fJ q.to)).sum:=by{unfold mkNode;simp only;rw[Us];congr 1;apply Uc;intro p hp;simp only[Function.comp_apply,j6,eQ,Us];congr 1;apply Uc;intro q hq;exact uT U hE J j r d q (J.closed k hk p hp q hq)};rw[bG,P];simp only;rw[t,fm];unfold kC;cases C:k.sym.term with| true=>{have R:bT g w E k=[]:=by{rw[Vq];intro p hp;obtain⟨_,_,_,h3,_⟩:=dJ.1 hp;rw[C] at h3;cases h3};have I:=(mQ.1 o);unfold Step at I;rw[n0 C] at I;rw[R];simp[mkNode,C,I]}| false=>{rw[JC C (λs i m h1 I _=>?_) l.2.1 l.2.2];{simp[mkNode,C]};{rcases Ts (fm g w d s i m) with e | e;{exact e};{have:=(nh hE I).2 (uM e);rw[h1] at this;cases this}}}}
theorem yV{g:aj}(r:Valid g){w:List Nat}{E:List (List Nat)}(t:gN g w E){root:Key}{S:List Key}(p:rq g w E root S)(i:gC g w root)(o:yk w E root):Prod (S.map (mkNode g w E S)):=by
 intro v C;rw[tj] at C;obtain⟨k,hk⟩:∃k,S[v]?=some k:=⟨_,gE C⟩;have j:=gM hk;have l:=(p.reach k j).Es r i;obtain⟨d,I⟩:=Ew ((nh t l.2.1).1 ((p.reach k j).step o));refine⟨d,?_⟩;rw[<-AO p.nodup hk,uT r t p i o d k j];exact I
theorem EX{g:aj}(o:Valid g){w:List Nat}(hw:w.length<=12){E:List (List Nat)}{root:Key}{S:List Key}(r:rq g w E root S)(i:gC g w root):QY (S.map (mkNode g w E S)) where
 Eo:=by
  rw[tj];exact AS (td o zo (λk hk=>(r.reach k hk).Es o i) r.nodup) (by decide)
 cr:=λx j=>by
  obtain⟨k,hk,rfl⟩:=x6.1 j;have l:=(r.reach k hk).Es o i;have:=mG o (E:=E) (w:=w) (show k.to<=12 by have:=l.2.2;omega);unfold mkNode;rw[tj];omega
 Nb:=λu v h=>by
  obtain⟨x,p,j,hp,hu⟩:=h;rw[zy] at j;cases hk:S[v]? with
  | none=>rw[hk] at j;cases j
  | some k=>
   rw[hk] at j;obtain rfl:=aE j;obtain⟨C,t,rfl⟩:=x6.1 hp;obtain⟨q,I,rfl⟩:=x6.1 hu;have:=r.closed k (gM hk) C t q I;rw[tj];exact U9 this
theorem uC{g:aj}(i:Valid g){w:List Nat}{E:List (List Nat)}:∀(L:List Key),(∀k∈L,k.to<=12)->er g w E L<=L.length*913952
 | [],_=>by simp[er]
 | k::L,h=>by{have h1:=uC i (E:=E) (w:=w) L λk hk=>h k (mb _ hk);have j:=mG i (E:=E) (w:=w) (h k me);unfold er at h1 ⊢;rw[y2,TL,IT,TO,Uu];omega}
def rootKey(g:aj)(w:List Nat):Key:=⟨⟨false,g.start⟩,0,w.length⟩
theorem u7{g:aj}(i:Valid g)(w:List Nat):gC g w (rootKey g w):=⟨by unfold cP rootKey;simpa using i.range.start,If _,mc _⟩
def D6(g:aj)(w:List Nat)(E:List (List Nat))(F:aA)(v:Value):Prop:=
 (fZ w E ⟨false,g.start⟩ 0 w.length=false/\v=.agg ⟨[.slice none 0 0,.int .i64 (-1)]⟩)\/
 (fZ w E ⟨false,g.start⟩ 0 w.length=true/\∃S a n c,v=.agg ⟨[.slice a n c,.int .i64 (place S (rootKey g w):Nat)]⟩/\rq g w E (rootKey g w) S/\bk wv F a n c (S.map (mkNode g w E S)))
theorem Ci{g:aj}(j:Valid g){w:List Nat}(hw:w.length<=12){E:List (List Nat)}{L:List Key}(l:L.Nodup)(o:∀k∈L,dZ g w E (rootKey g w) k):er g w E L<=200000*913952:=by
 have i:∀k∈L,gC g w k:=λk hk=>(o k hk).Es j (u7 j w);refine AS (uC j L λk hk=>by have:=(i k hk).2.2;omega) (TG _ (td j zo i l))
theorem Aq(F:aA):Abs.Spec CC 34 [.agg ⟨[.slice none 0 0,.int .i64 (-1)]⟩] F [] λi r o=>o=[]/\r=.int .i64 0:=by
 refine Abs.Spec.fn (n:=28) Tryz.func34 rfl rfl λown=>?_;refine AW.seq (AW.fp ?_);refine WT.bN Z Z Z Z Z Z (λi1 g=>?_);refine aq ?_;refine AW.cond Z (λ_=>?_) (λh=>(by cases h));refine aq ?_;exact AW.ret ⟨_,[],⟨_,_,rfl,rfl,rfl⟩,bF,rfl,rfl⟩
theorem wC(F:aA)(J:Laid F)(g:aj)(I:Valid g){ga:Option Addr}{gm gc:Nat}(P:bk cD F ga gm gc g.rules){b:Option Addr}{n d:Nat}{w:List Nat}(hw:bk eV F b n d w)(i:w.length<=12) :
  Abs.Spec CC 35 [.agg ⟨ai g ga gm gc⟩,.slice b n d] F [] λR v o=>o=[]/\∃E,gN g w E/\D6 g w E R v:=by
 unfold ai;refine Abs.Spec.fn (n:=17) Tryz.func35 rfl rfl λown=>?_;refine AW.seq (AW.fp ?_);refine WT.bN Z Z Z Z Z Z (λi2 U=>?_);refine WT.az hT Z Z Z Z Z Z (λi4 aa=>?_);refine aq ?_;refine AW.draw (ps:=[(0,4),(0,9),(2,9)]) Z Z (aq ?_);refine WT.bE Tryz.func38 Z Z Z Z Z Z (JK _ J g I P hw zo) (λF1 v j C=>?_);obtain⟨ea,ec,E,rfl,hE,l⟩:=C;have ac:=l.ok.size;refine WT.bE Tryz.func71 Z Z Z Z Z Z (Ht _ (J.mono j) g I (P.mono j) (hw.mono j) i hE l.ok 1099511627776 (by decide)) (λF2 v ae C=>?_);have t:∃x,v=.tuple ⟨[.agg ⟨x⟩,.bool true]⟩/\D6 g w E F2 (.agg ⟨x⟩)/\∃a n c r,x=[.slice a n c,.int .i64 r]:=by{rcases C with ⟨h1,rfl⟩ | ⟨h1,h2⟩;{exact⟨_,rfl,.inl ⟨h1,rfl⟩,_,_,_,_,rfl⟩};{rcases h2 with ⟨S,a,n,c,rfl,hK,hA,_⟩ | ⟨_,L,h3,h4,h5⟩;{exact⟨_,rfl,.inr ⟨h1,S,a,n,c,rfl,hK,hA⟩,_,_,_,_,rfl⟩};{have:=Ci I i h3 h4;omega}}};clear C;obtain⟨x,rfl,hx,xa,xn,xc,xr,rfl⟩:=t;refine aq ?_;refine WT.az hT Z Z Z Z Z Z (λi5 av=>?_);refine aq ?_;refine⟨lU,?_⟩;refine aq ?_;exact AW.ret ⟨_,[],⟨_,_,⟨_,rfl,λG h0 s0=>aD (s0.has (p:=1) rfl me) (aM hT rfl)⟩,rfl,rfl⟩,bF,rfl,E,l,hx⟩
theorem AY{T:Nat->Nat}(h:∀d,T d=0):jl T 0:=⟨0,λd _=>h d⟩
theorem ED(F:aA)(hL:Laid F)(g:aj)(p:Valid g){ga:Option Addr}{gm gc:Nat}(U:bk cD F ga gm gc g.rules){b:Option Addr}{n d:Nat}{w:List Nat}(hw:bk eV F b n d w)(j:w.length<=12)(I:∀t∈w,t<g.ae) :
  Abs.Spec CC 14 [.agg ⟨ai g ga gm gc⟩,.slice b n d] F [] λF' v o=>o=[]/\∃c,v=.tuple ⟨[.int .i64 c,.int .i64 0]⟩/\j7 (λd=>fm g w d ⟨false,g.start⟩ 0 w.length) c:=by
 (unfold ai;refine Abs.Spec.fn (n:=17) Tryz.func14 rfl rfl λown=>?_;refine AW.seq (AW.fp ?_);refine WT.bN Z Z Z Z Z Z (λi2 ac=>?_);refine aq ?_;refine WT.bj Tryz.func33 Z Z Z Z Z Z (wG _ g p U hw j I) (λv l=>?_);subst l;refine aq ?_;refine AW.cond Z (λh=>(by cases h)) (λh=>?_);refine aq ?_;refine WT.bE Tryz.func35 Z Z Z Z Z Z (wC _ hL g p U hw j) (λF2 v ad l=>?_);obtain⟨E,J,l⟩:=l;rcases l with ⟨h1,rfl⟩ | ⟨h1,S,a,n',c,rfl,C,hA⟩);{(refine WT.bj Tryz.func34 Z Z Z Z Z Z (Aq _) (λv l=>?_);subst l;refine aq ?_;refine AW.ret ⟨_,[],⟨_,_,rfl,⟨_,_,rfl,rfl,rfl⟩,rfl⟩,bF,rfl,0,rfl,.inl ⟨0,AY λd=>?_,rfl⟩⟩;rcases Ts (fm g w d ⟨false,g.start⟩ 0 w.length) with e | e);{exact e};{have:=(nh J (If _)).2 (uM e);rw[h1] at this;cases this}};{have i:=u7 p w;have r:=C.first;have P:=iV r;have R:=(gS P).1;refine WT.bj Tryz.func34 Z Z Z Z Z Z (Ag _ (EX p j C i) (yV p J C i h1) hA (place S (rootKey g w)) (by rw[tj];exact R)) (λv l=>?_);obtain⟨c',rfl,hc⟩:=l;refine aq ?_;refine AW.ret ⟨_,[],⟨_,_,rfl,⟨_,_,rfl,rfl,rfl⟩,rfl⟩,bF,rfl,c',rfl,?_⟩;have:(λd=>bG (S.map (mkNode g w E S)) d (place S (rootKey g w)))=λd=>fm g w d ⟨false,g.start⟩ 0 w.length:=by{funext d;exact uT p J C i h1 d _ r};rw[this] at hc;exact hc}
def aK(xs ys:List Bool):List Bool:=List.zipWith (λa b=>a||b) xs ys
def rk(j:Nat)(xs ys:List Bool):List Bool:=aK (xs.take j) (ys.take j)++xs.drop j
theorem Cx(xs ys:List Bool):rk 0 xs ys=xs:=by simp[rk,aK]
theorem FH{xs ys:List Bool}(h:xs.length=ys.length):rk xs.length xs ys=aK xs ys:=by
 unfold rk;rw[qs (mc _),qs zo,TE (mc _),Tx]
theorem yB{j:Nat}{xs ys:List Bool}(h:xs.length=ys.length):(rk j xs ys).length=xs.length:=by
 unfold rk aK;simp;omega
theorem uP{j:Nat}{xs ys:List Bool}{x:Bool}(h:xs.length=ys.length)(g:xs[j]?=some x):(rk j xs ys)[j]?=some x:=by
 have i:=(gS g).1;unfold rk aK;rw[OF (by simp;omega)];simp;rw[<-g];congr 1;omega
theorem vU{j:Nat}{xs ys:List Bool}{x y:Bool}(h:xs.length=ys.length)(g:xs[j]?=some x)(o:ys[j]?=some y):rk (j+1) xs ys=(rk j xs ys).set j (x||y):=by
 have i:=(gS g).1;have l:(aK (xs.take j) (ys.take j)).length=j:=by{unfold aK;simp;omega};unfold rk;rw[yo,yo,g,o];unfold aK;rw[List.zipWith_append (by simp;omega)];have r:xs.drop j=x::xs.drop (j+1):=by{rw[Tl i];rw[gE i] at g;rw[aE g]};rw[r];unfold aK at l;rw[V6 _ _ zo,l,Ua];simp
structure US where
 cur:List Bool
 ch:Bool
theorem ob(F:aA){it:Nat}{xs ys:List Bool}{b:Option Addr}{m n c d:Nat}(hm:m=xs.length)(hy:bk dt F b n d ys)(hlen:xs.length=ys.length)(hn:n<=1000000) :
  Abs.Spec CC 68 [.slice (some ⟨it,0,none⟩) m c,.slice b n d] F [[(it,.cells false (xs.map be.cell))]] λ_ v o=>∃B',o=[B']/\B'=[(it,.cells false ((aK xs ys).map be.cell))]/\v=.bool (decide (aK xs ys≠xs)):=by
 have P:=hy.len;refine Abs.Spec.fn (n:=28) Tryz.func68 rfl rfl λown=>?_;refine aq ?_;refine AW.range (S:=US) (λs=>[(5,.bool s.ch)]) (λs=>[(it,.cells false (s.cur.map be.cell))]::own) (λj s G=>s.cur=rk j xs ys/\s.ch=decide (s.cur≠xs)) n ⟨xs,false⟩ Z Z Z Z Z Z Z Z Z zo Z Z (λ_=>rfl) (λ_=>rfl) sM oR ⟨(Cx xs ys).symm,by simp⟩ ?_ ?_;{intro j s F1 C hj R;obtain⟨g,t⟩:=R;have U:=hy.mono C;obtain⟨x,J⟩:∃x,xs[j]?=some x:=⟨_,gE zo⟩;have af:s.cur.length=xs.length:=by{rw[g];exact yB hlen};have aa:(s.cur.map be.cell)[0+j*1]?=some (.bool x):=by{rw[AI,Tp,zy,g,uP hlen J];rfl};refine aq ?_;refine WT.bh hT U Z Z Z Z Z Z Z Z Z zo (λy ab b1 off ro cs lx hb hp I=>?_);obtain rfl:lx=_:=I;have l:=vU hlen J ab;rw[<-g] at l;have same:(x||y)=x->s.cur.set j (x||y)=s.cur:=by{intro e;rw[e];apply Tn;intro i;by_cases hi:i=j;{subst hi;rw[xk zo,g,uP hlen J]};{rw[yf zo]}};refine aq ?_;refine WT.split 16 Z (λh=>?_) (λh=>?_);{refine aq ?_;refine WT.cH (j:=j) (s:=1) hT Z Z Z Z Z Z Z Z Z zo (WT.loadAt hT 0 Z Z Z Z Z Z me Z Z aa (aq ?_));refine AW.cond Z (λr=>?_) (λr=>?_);{have r:x=false:=by{simpa using r};refine aq ?_;refine WT.cH (j:=j) (s:=1) hT Z Z Z Z Z Z Z Z Z zo (WT.storeAt hT 0 0 Z Z Z Z Z Z Z Z Z Z (by simp;omega) Z Z (aq ?_));refine⟨⟨s.cur.set j true,true⟩,sM,ah.flat ?_,?_,?_⟩;{dsimp only;rw[T9,AI,Tp];exact sh _};{rw[l,h,r];rfl};{have:s.cur.set j true≠xs:=by{intro e;have this:(s.cur.set j true)[j]?=xs[j]?:=by{rw[e]};rw[xk zo,J,r] at this;cases this};simp[this]}};{have r:x=true:=by{simpa using r};refine aq ?_;refine⟨s,sM,cF,?_,t⟩;rw[l,same (by rw[r];rfl)]}};{refine aq ?_;refine AW.cond Z (λr=>(by cases r)) (λr=>?_);refine aq ?_;refine⟨s,sM,cF,?_,t⟩;rw[l,same (by rw[h];simp)]}};{intro s F1 C R;obtain⟨g,t⟩:=R;rw[show n=xs.length by omega,FH hlen] at g;refine aq ?_;refine AW.ret ⟨_,[_],⟨_,_,rfl,rfl,rfl⟩,Tm _,_,rfl,by rw[<-g],?_⟩;rw[<-g,<-t];rfl}
def ofRow(E:List Bool)(Fi:List (List Bool)):List Bool->List Sym->List Bool×Bool
 | out,[]=>(out,true)
 | out,s::l=>if s.term=true then (out.set s.n true,false) else
  if E.getD s.n false=true then ofRow E Fi (aK out (Fi.getD s.n [])) l else (aK out (Fi.getD s.n []),false)
theorem uz(F:aA){is ie io:Nat}{ro:Bool}{ae ay start rm rc ce co:Nat}{ra:Option Addr}{E:List Bool}{Fi:List (List Bool)}
  (hS:F is=some (.cells ro [.int .i64 ae,.int .i64 ay,.int .i64 start,.slice ra rm rc,.slice (some ⟨ie,0,none⟩) ay ce,.slice (some ⟨io,0,none⟩) ay co]))
  (hE:bk dt F (some ⟨ie,0,none⟩) ay ce E) (af:bk (bz dt) F (some ⟨io,0,none⟩) ay co Fi) (ao:∀r∈Fi,r.length=ae) (ht:ae<=1000000)
  {a:Option Addr} {m c:Nat} {l:List Sym} (hl:bk gR F a m c l) (hm:m<=1000000) (ar:∀y∈l,cP ae ay y) :
  Abs.Spec CC 67 [.pointer (some ⟨is,0,none⟩),.slice a m c] F [] λ_ v o=>∃B',o=[B']/\∃I,B'=[(I,.cells false ((ofRow E Fi (List.replicate ae false) l).1.map be.cell))]/\
   (ofRow E Fi (List.replicate ae false) l).1.length=ae/\v=.tuple ⟨[.slice (some ⟨I,0,none⟩) ae (if ae=0 then 0 else 1),.bool (ofRow E Fi (List.replicate ae false) l).2]⟩:=by
 have av:=hl.len;have ax:=hE.len;have a0:=af.len;refine Abs.Spec.fn (n:=50) Tryz.func67 rfl rfl λown=>?_;refine aq ?_;refine WT.oH (l:=ae) hT Z Z Z Z Z Z Z Z Z Z Z Z fj (λI br=>?_);rw[lA];refine aq ?_;refine AW.range (S:=List Bool) (λ_=>[]) (λs=>[(I,.cells false (s.map be.cell))]::own) (λj s G=>s.length=ae/\ofRow E Fi (List.replicate ae false) l=ofRow E Fi s (l.drop j)) m (List.replicate ae false) Z Z Z Z Z Z Z Z Z zo Z Z (λ_=>rfl) (λ_=>rfl) sM (ah.flat (by simp[be])) ⟨by simp,by simp⟩ ?_ ?_;{intro j s F1 i hj hP;obtain⟨P,g⟩:=hP;have a2:=hl.mono i;have bs:=i _ _ hS;have a3:=hE.mono i;have ag:=af.mono i;refine aq ?_;refine WT.bh hT a2 Z Z Z Z Z Z Z Z Z zo (λy R b1 off bt cs lx hb hp al=>?_);obtain rfl:lx=_:=al;have t:=ar y (gM R);have U:l.drop j=y::l.drop (j+1):=by{rw[Tl (show j<l.length by omega)];rw[gE zo] at R;rw[aE R]};rw[U] at g;refine aq ?_;refine WT.az hT Z Z Z Z Z Z (λi8 bx=>?_);refine aq ?_;refine AW.cond Z (λh=>?_) (λh=>?_);{have h:y.term=true:=h;rw[cP,n0 h] at t;rw[ofRow,n0 h] at g;refine aq ?_;refine WT.cH (j:=y.n) (s:=1) hT Z Z Z Z Z Z Z Z Z t (WT.storeAt hT 1 0 Z Z Z Z Z Z Z Z Z Z (by simp;omega) Z Z (aq ?_));refine AW.ret ⟨_,[[(I,.cells false ((s.set y.n true).map be.cell))]],⟨_,_,rfl,⟨_,_,rfl,rfl,rfl⟩,rfl⟩,?_,_,rfl,I,?_,?_,?_⟩;{rw[T9,show 0+y.n*1=y.n by omega];exact UE ..};{rw[g]};{rw[g];simp[P]};{rw[g];rfl}};{have h:¬y.term=true:=by{rw[show y.term=false from h];decide};rw[cP,nw h] at t;rw[ofRow,nw h] at g;refine aq ?_;refine WT.bh hT ag Z Z Z Z Z Z Z Z Z zo (λrow J b2 bc b0 b4 b5 b6 b7 aa=>?_);obtain⟨a4,n4,c4,rfl,C⟩:=aa;have b8:=ao row (gM J);have bd:=C.len;have ab:Fi.getD y.n []=row:=by{rw[pf,J];rfl};rw[ab] at g;have an:(aK s row).length=ae:=by{unfold aK;simp;omega};refine aq ?_;refine WT.pj 1 Tryz.func68 Z Z Z Z Z Z Z (λ_=>rfl) (ob F1 (it:=I) (xs:=s) (m:=ae) zo C zo zo) (λv B hv=>?_);obtain⟨rfl,rfl⟩:=hv;refine aq ?_;refine WT.bh hT a3 Z Z Z Z Z Z Z Z Z zo (λe he b3 bf ca cc a5 cf ch ac=>?_);obtain rfl:a5=_:=ac;have a6:E.getD y.n false=e:=by{rw[pf,he];rfl};rw[a6] at g;refine aq ?_;refine AW.cond Z (λh2=>?_) (λh2=>?_);{have h2:e=false:=by{simpa using h2};rw[nw (by rw[h2];decide)] at g;refine aq ?_;refine AW.ret ⟨_,[[(I,.cells false ((aK s row).map be.cell))]],⟨_,_,rfl,⟨_,_,rfl,rfl,rfl⟩,rfl⟩,UE ..,_,rfl,I,?_,?_,?_⟩;{rw[g]};{rw[g];exact an};{rw[g];rfl}};{have h2:e=true:=by{simpa using h2};rw[n0 h2] at g;refine aq ?_;exact⟨aK s row,sM,cF,an,g⟩}}};{intro s F1 i hP;obtain⟨P,g⟩:=hP;rw[TE zo,ofRow] at g;refine aq ?_;refine AW.ret ⟨_,[_],⟨_,_,rfl,⟨_,_,rfl,rfl,rfl⟩,rfl⟩,Tm _,_,rfl,I,?_,?_,?_⟩;{rw[g]};{rw[g];exact P};{rw[g];rfl}}
def fq(g:aj)(E:List Bool)(Fi:List (List Bool)):Prop:=∀r∈g.rules,aK (Fi.getD r.left []) (ofRow E Fi (List.replicate g.ae false) r.right).1=Fi.getD r.left []/\
 ((ofRow E Fi (List.replicate g.ae false) r.right).2=true->E.getD r.left false=true)
structure Ac(F:aA)(is:Nat)(g:aj)(ra:Option Addr)(rm rc:Nat)(E:List Bool)(Fi:List (List Bool)):Prop where
 bQ:∃ie io ce co ro,F is=some (.cells ro [.int .i64 g.ae,.int .i64 g.ay,.int .i64 g.start,.slice ra rm rc,.slice (some ⟨ie,0,none⟩) g.ay ce,.slice (some ⟨io,0,none⟩) g.ay co])/\
  bk dt F (some ⟨ie,0,none⟩) g.ay ce E/\bk (bz dt) F (some ⟨io,0,none⟩) g.ay co Fi
 row:∀r∈Fi,r.length=g.ae
 rules:bk cD F ra rm rc g.rules
 closed:fq g E Fi
structure FS where
 a:Option Addr
 m:Nat
 c:Nat
 B:List (Nat×aJ)
 vs:List Value
 bs:List (Nat×aJ)
structure FM where
 E:List Bool
 Fi:List (List Bool)
 bs:List (Nat×aJ)
 again:Bool
def gi:List Bool->Nat
 | []=>0
 | b::l=>(if b=true then 1 else 0)+gi l
def dR(M:List (List Bool)):Nat:=(M.map gi).sum
theorem tG:∀l:List Bool,gi l<=l.length
 | []=>mc _
 | b::l=>by have:=tG l;simp only[gi,IT];split<;>omega
theorem DL:∀{xs ys:List Bool},xs.length=ys.length->gi xs<=gi (aK xs ys)/\(aK xs ys≠xs->gi xs<gi (aK xs ys))
 | [],[],_=>by simp[aK]
 | [],_::_,h=>by simp at h
 | _::_,[],h=>by simp at h
 | x::xs,y::ys,h=>by{obtain⟨h1,i⟩:=@DL xs ys (by simpa using h);unfold aK at h1 i;simp only[aK,UQ,gi];cases x with| true=>{refine⟨by simp;omega,λg=>?_⟩;have:List.zipWith (λa b=>a||b) xs ys≠xs:=by{intro e;apply g;simp[e]};have:=i this;simp;omega}| false=>{cases y with| true=>{exact⟨by simp;omega,λ_=>by simp;omega⟩}| false=>{refine⟨by simp;omega,λg=>?_⟩;have:List.zipWith (λa b=>a||b) xs ys≠xs:=by{intro e;apply g;simp[e]};have:=i this;simp;omega}}}
theorem pP:∀{l:List Bool} {j:Nat},l[j]?=some false->gi (l.set j true)=gi l+1
 | [],j,h=>by simp at h
 | b::l,0,h=>by simp at h;subst h;simp[gi];omega
 | b::l,j+1,h=>by{have:=@pP l j (by simpa using h);simp only[Ux,gi];omega}
theorem EF{n m:Nat}{M:List (List Bool)}(h:pD n m M):dR M<=n*m:=by
 unfold dR;rw[<-h.size,<-tj (f:=gi)];refine Dv λx g=>?_;obtain⟨row,i,rfl⟩:=x6.1 g;have:=tG row;rw[h.row row i] at this;exact this
theorem Cb{M:List (List Bool)}{i:Nat}{row row':List Bool}(h:M[i]?=some row):dR (M.set i row')+gi row=dR M+gi row':=by
 unfold dR;rw[T9];exact uK (by rw[zy,h];rfl)
theorem fW{xs ys:List Bool}(h:xs.length=ys.length):(aK xs ys).length=xs.length:=by unfold aK;simp;omega
def rV(ae:Nat)(E:List Bool)(Fi:List (List Bool))(r:bY):Prop:=aK (Fi.getD r.left []) (ofRow E Fi (List.replicate ae false) r.right).1=Fi.getD r.left []/\
 ((ofRow E Fi (List.replicate ae false) r.right).2=true->E.getD r.left false=true)
def Ld(E:List Bool)(M:List (List Bool))(r:bY):Prop:=∀pre n post,r.right=pre++⟨false,n⟩::post->(∀y∈pre,y.term=false/\E.getD y.n false=true)->Kv M r.left n=some true
structure Td where
 ys:List (List Nat)
 a:Option Addr
 m:Nat
 c:Nat
 B:List (Nat×aJ)
inductive Tree where
 | mk (aB:Int) (term:Nat) (kids:List Tree)
theorem bk.imp{α:Type}{R S:Ty α}(hs:R.size=S.size){F:aA}{a:Option Addr}{n c:Nat}{xs:List α}(h:bk R F a n c xs)(hi:∀l x,x∈xs->R.rel F l x->S.rel F l x):bk S F a n c xs:=
 ⟨h.len,by rw[<-hs];exact h.cap,h.zero,h.nil,h.spot,λj x g=>
  let ⟨b,off,ro,cs,l,h1,i,o,p⟩:=h.el j x g
  ⟨b,off,ro,cs,l,h1,i,by rw[<-hs];exact o,hi _ _ (gM g) p⟩⟩
def jy:Nat->Ty Tree
 | 0=>⟨3,λ_ _ _=>False,λ_ _ _ h=>h.elim,λ_ _ _ h=>h.elim,λ_ _ _ _ _ h=>h⟩
 | d+1=>
  {size:=3
   rel:=λF l x=>∃r t ks a n c,x=.mk r t ks/\l=[.int .i64 r,.int .i64 (t:Nat),.slice a n c]/\bk (jy d) F a n c ks/\ks.length<=1000000
   len:=λ_ _ _ h=>by obtain⟨r,t,ks,a,n,c,_,rfl,_⟩:=h;rfl
   one:=λ_ _ _ h=>by obtain⟨r,t,ks,a,n,c,_,rfl,_⟩:=h;rfl
   mono:=λ_ _ _ _ g h=>by obtain⟨r,t,ks,a,n,c,e,i,h,j⟩:=h;exact⟨r,t,ks,a,n,c,e,i,h.mono g,j⟩ }
theorem fz:∀d,(jy d).size=3
 | 0=>rfl
 | _+1=>rfl
theorem xp:∀(d:Nat) (F:aA) (l:List Value) (x:Tree),(jy d).rel F l x->(jy (d+1)).rel F l x
 | 0,_,_,_,h=>h.elim
 | d+1,F,l,x,h=>by{obtain⟨r,t,ks,a,n,c,e,g,h,i⟩:=h;exact⟨r,t,ks,a,n,c,e,g,bk.imp (by rw[fz,fz]) h λl x _=>xp d F l x,i⟩}
theorem KL{d e:Nat}(h:d<=e){F:aA}{l:List Value}{x:Tree}(g:(jy d).rel F l x):(jy e).rel F l x:=by
 induction h with| refl=>{exact g}| step _ i=>{exact xp _ _ _ _ i}
def bZ:Ty Tree where
 size:=3
 rel:=λF l x=>∃d,(jy d).rel F l x
 len:=λ_ _ _ h=>by obtain⟨d,h⟩:=h;rw[(jy d).len _ _ _ h,fz]
 one:=λ_ _ _ h=>by obtain⟨d,h⟩:=h;exact(jy d).one _ _ _ h
 mono:=λ_ _ _ _ g h=>by obtain⟨d,h⟩:=h;exact⟨d,(jy d).mono _ _ _ _ g h⟩
theorem Mm{α:Type}{P:Nat->α->Nat->Prop}(hm:∀j x d e,d<=e->P j x d->P j x e):∀(xs:List α) (i:Nat),(∀j x,xs[j]?=some x->∃d,P (i+j) x d)->∃D,∀j x,xs[j]?=some x->P (i+j) x D
 | [],_,_=>⟨0,λ_ _ h=>by simp at h⟩
 | x::xs,i,h=>by{obtain⟨d,l⟩:=h 0 x rfl;obtain⟨D,o⟩:=Mm hm xs (i+1) (λj y g=>by{have:=h (j+1) y g;rw[show i+(j+1)=i+1+j by omega] at this;exact this});refine⟨max d D,λj y g=>?_⟩;cases j with| zero=>{obtain rfl:x=y:=by{simpa using g};exact hm _ _ _ _ (Nat.le_max_left _ _) l}| succ j=>{have:=hm _ _ _ _ (Nat.le_max_right d D) (o j y g);rw[show i+(j+1)=i+1+j by omega];exact this}}
theorem Mq{F:aA}{a:Option Addr}{n c:Nat}{xs:List Tree}(h:bk bZ F a n c xs):∃d,bk (jy d) F a n c xs:=by
 obtain⟨D,t⟩:=Mm (P:=λj x d=>∃b off ro cs l,a=some ⟨b,off,none⟩/\F b=some (.cells ro cs)/\bO cs (off+j*3) 3=some l/\(jy d).rel F l x) (λj x d e p ⟨b,off,ro,cs,l,h1,i,g,o⟩=>⟨b,off,ro,cs,l,h1,i,g,KL p o⟩) xs 0 (λj x r=>by{obtain⟨b,off,ro,cs,l,h1,i,g,d,o⟩:=h.el j x r;exact⟨d,b,off,ro,cs,l,h1,i,by rw[AI];exact g,o⟩});refine⟨D,h.len,by rw[fz];exact h.cap,h.zero,h.nil,h.spot,λj x r=>?_⟩;obtain⟨b,off,ro,cs,l,h1,i,g,o⟩:=t j x r;rw[AI] at g;exact⟨b,off,ro,cs,l,h1,i,by rw[fz];exact g,o⟩
theorem nv{F:aA}{r:Int}{t:Nat}{ks:List Tree}{a:Option Addr}{n c:Nat}(h:bk bZ F a n c ks)(g:ks.length<=1000000):bZ.rel F [.int .i64 r,.int .i64 t,.slice a n c] (.mk r t ks):=by
 obtain⟨d,i⟩:=Mq h;exact⟨d+1,r,t,ks,a,n,c,rfl,rfl,i,g⟩
theorem cz{F:aA}{l:List Value}{r:Int}{t:Nat}{ks:List Tree}(h:bZ.rel F l (.mk r t ks)):∃a n c,l=[.int .i64 r,.int .i64 t,.slice a n c]/\bk bZ F a n c ks/\ks.length<=1000000:=by
 obtain⟨d,h⟩:=h;cases d with| zero=>{exact h.elim}| succ d=>{obtain⟨o,p,g,a,n,c,e,rfl,h,i⟩:=h;cases e;exact⟨a,n,c,rfl,bk.imp (fz d) h (λl x _ j=>⟨d,j⟩),i⟩}
theorem CF(F:aA)(t:Nat):Abs.Spec CC 63 [.int .i64 t] F [] λg v o=>o=[]/\∃cs,v=.agg ⟨cs⟩/\bZ.rel g cs (.mk (-1) t []):=by
 refine Abs.Spec.fn (n:=5) Tryz.func63 rfl rfl λown=>?_;refine AW.seq (AW.fp ?_);refine WT.az hT Z Z Z Z Z Z (λi2 i=>?_);refine aq ?_;refine AW.ret ⟨_,[],⟨_,_,⟨_,rfl,λG l j=>aD (j.has (p:=0) Z me) (aM hT rfl)⟩,rfl,rfl⟩,bF,rfl,_,rfl,nv (bk.cK _ _) (by simp)⟩
structure Sy where
 j:Nat
 a:Option Addr
 c:Nat
 B:List (Nat×aJ)
theorem ru:∀(d:Nat) (F:aA) (cs:List Value) (t:Tree),(jy d).rel F cs t->Abs.Spec CC 64 [.agg ⟨cs⟩] F [] λF' v o=>o=[]/\∃cs,v=.agg ⟨cs⟩/\bZ.rel F' cs t
 | 0,_,_,_,h=>h.elim
 | d+1,F,cs,t,h=>by{obtain⟨r,t,ks,a,n,c,rfl,rfl,hk,af⟩:=h;have hlen:=hk.len;refine Abs.Spec.fn (n:=27) Tryz.func64 rfl rfl λown=>?_;refine AW.seq (AW.fp ?_);refine WT.bN Z Z Z Z Z Z (λi1 a0=>?_);refine WT.az hT Z Z Z Z Z Z (λi2 a1=>?_);refine aq ?_;refine WT.az hT Z Z Z Z Z Z (λi3 a2=>?_);refine aq ?_;refine AW.range (S:=Sy) (λ_=>[]) (λs=>s.B::[(i3,.cells false [.int .i64 r,.int .i64 t,.slice s.a (ks.take s.j).length s.c])]::[(i2,.cells false [.int .i64 0,.int .i64 0,.slice none 0 0])]::[(i1,.cells false [.int .i64 r,.int .i64 t,.slice a n c])]::own) (λj s G=>s.j=j/\cb bZ G s.a (ks.take s.j).length s.c s.B (ks.take s.j)) n ⟨0,none,0,[]⟩ Z Z Z Z Z Z Z Z Z zo rfl rfl (λ_=>rfl) (λ_=>rfl) sM (ah.flat (sh _)) ⟨rfl,by simpa using cb.cK _ _⟩ ?_ ?_;{intro j s F1 P hj hP;obtain⟨rfl,J⟩:=hP;have an:=hk.mono P;refine gz ?_;refine WT.bh hT an Z Z Z Z Z Z Z Z (by rw[fz];rfl) zo (λx hx b off ro cs lx a5 ar i=>?_);rw[fz] at ar;obtain⟨l,C,g,U,xn,xc,rfl,rfl,a6,a7⟩:∃l C g U xn xc,x=Tree.mk l C g/\lx=[.int .i64 l,.int .i64 (C:Nat),.slice U xn xc]/\bk bZ F1 U xn xc g/\g.length<=1000000:=by{cases x with| mk l C g=>{obtain⟨U,xn,xc,h1,h2,h3⟩:=cz ⟨d,i⟩;exact⟨l,C,g,U,xn,xc,rfl,h1,h2,h3⟩}};refine gz ?_;refine WT.az hT Z Z Z Z Z Z (λi5 ba=>?_);refine gz ?_;refine AW.draw (ps:=[(1,3),(1,4)]) Z Z (gz ?_);refine WT.bE Tryz.func64 Z Z Z Z Z Z (ru d F1 _ _ i) (λF2 v I hv=>?_);obtain⟨cv,rfl,ac⟩:=hv;obtain⟨ya,yn,yc,rfl,bd,bf⟩:=cz ac;have J:=J.mono I;refine WT.aR hT Z Z Z Z Z Z Z Z Z Z Z Z Z Z (λi9 bi=>?_);have bn:(ks.take s.j).length<=1000000:=by{simp;omega};refine WT.aZ (ys:=[Tree.mk l C g]) hT 2 J Z (λ_=>rfl) Z Z Z Z Z Z Z Z Z Z Z (λh0 s0=>aN hT s0 0 Z Z Z Z) (aG.single (R:=bZ) (x:=Tree.mk l C g) ac) Z (by decide) fj (λa3 c3 B3 ad=>?_);have he:ks.take (s.j+1)=ks.take s.j++[Tree.mk l C g]:=by{rw[yo,hx];rfl};have ae:(ks.take (s.j+1)).length=(ks.take s.j).length+1:=by{rw[he];simp};rw[<-he,<-ae] at ad;rw[<-ae];refine gz ?_;refine⟨lU,?_⟩;exact⟨⟨s.j+1,a3,c3,B3⟩,sM,cF,rfl,ad⟩};{intro s F1 P hP;obtain⟨rfl,J⟩:=hP;rw[qs zo] at J ⊢;refine AW.aw 0 Z Z (λF2 I ax=>?_);have hx:=J.frozen I ax;refine gz ?_;refine AW.ret ⟨_,[],⟨_,_,⟨_,rfl,λG h0 s0=>aD (s0.has (p:=2) Z me) (aM hT rfl)⟩,rfl,rfl⟩,bF,rfl,_,rfl,nv hx af⟩}}
structure Ri(g:aj)(M:List (List Bool))(E:List Bool)(Fi:List (List Bool)):Prop where
 dA:pD g.ay g.ay M
 first:fq g E Fi
 direct:∀r∈g.rules,Ld E M r
 trans:∀x y z,y<g.ay->Kv M x y=some true->Kv M y z=some true->Kv M x z=some true
 R6:∀i,i<g.ay->Kv M i i≠some true
mutual
inductive aI(g:aj)(w:List Nat):Sym->Tree->Nat->Nat->Prop
 | leaf {t i:Nat} (h:w[i]?=some t):aI g w ⟨true,t⟩ (.mk (-1) t []) i (i+1)
 | node {k:Nat} {r:bY} {kids:List Tree} {i j:Nat} (h:g.rules[k]?=some r) (h2:aF g w r.right kids i j):aI g w ⟨false,r.left⟩ (.mk k 0 kids) i j
inductive aF(g:aj)(w:List Nat):List Sym->List Tree->Nat->Nat->Prop
 | nil {i:Nat}:aF g w [] [] i i
 | cons {s:Sym} {l:List Sym} {t:Tree} {ts:List Tree} {i m j:Nat} (h:aI g w s t i m) (h2:aF g w l ts m j):aF g w (s::l) (t::ts) i j
end
theorem aF.snoc{g:aj}{w:List Nat}{s:Sym}{t:Tree}{m j:Nat}(h:aI g w s t m j):∀{l:List Sym} {ts:List Tree} {i:Nat},aF g w l ts i m->aF g w (l++[s]) (ts++[t]) i j
 | [],_,_,.nil=>.cons h .nil
 | _::_,_,_,.cons h1 o=>.cons h1 (aF.snoc h o)
mutual
theorem aI.le{g:aj}{w:List Nat}:∀{t:Tree} {s:Sym} {i j:Nat},aI g w s t i j->i<=j/\(i<=w.length->j<=w.length)
 | .mk _ _ _,_,_,_,.leaf h=>⟨by omega,λ_=>by have:=(gS h).1;omega⟩
 | .mk _ _ ks,_,_,_,.node h l=>aF.le l
theorem aF.le{g:aj}{w:List Nat}:∀{ts:List Tree} {l:List Sym} {i j:Nat},aF g w l ts i j->i<=j/\(i<=w.length->j<=w.length)
 | [],_,_,_,.nil=>⟨mc _,id⟩
 | t::ts,_,_,_,.cons h o=>by{have p:=aI.le h;have r:=aF.le o;exact⟨by omega,λC=>r.2 (p.2 C)⟩}
end
theorem aF.len{g:aj}{w:List Nat}:∀{ts:List Tree} {l:List Sym} {i j:Nat},aF g w l ts i j->ts.length=l.length
 | [],_,_,_,.nil=>rfl
 | t::ts,_,_,_,.cons h o=>by simp[aF.len o]
theorem Ca{E:List Bool}{Fi:List (List Bool)}:∀(l:List Sym) (out:List Bool),(∀y∈l,y.term=false/\E.getD y.n false=true)->(ofRow E Fi out l).2=true
 | [],_,_=>rfl
 | s::l,out,h=>by{have h1:=h s me;unfold ofRow;rw[nw (by simp[h1.1]),n0 h1.2];exact Ca l _ λy g=>h y (mb _ g)}
mutual
theorem aI.empty{g:aj}{w:List Nat}{E:List Bool}{Fi:List (List Bool)}(l:fq g E Fi):∀{t:Tree} {s:Sym} {i j:Nat},aI g w s t i j->i=j->s.term=false/\E.getD s.n false=true
 | .mk _ _ _,_,_,_,.leaf h,e=>by omega
 | .mk _ _ ks,_,_,_,.node h o,e=>⟨rfl,(l _ (gM h)).2 (Ca _ _ (aF.empty l o e))⟩
theorem aF.empty{g:aj}{w:List Nat}{E:List Bool}{Fi:List (List Bool)}(o:fq g E Fi):∀{ts:List Tree} {l:List Sym} {i j:Nat},aF g w l ts i j->i=j->∀y∈l,y.term=false/\E.getD y.n false=true
 | [],_,_,_,.nil,_=>λy hy=>by simp at hy
 | t::ts,_,_,_,.cons h r,e=>λy hy=>by{have C:=h.le.1;have I:=r.le.1;rcases PJ.1 hy with rfl | hy;{exact aI.empty o h zo};{exact aF.empty o r zo y hy}}
end
def Nt(n:Nat)(M:List (List Bool))(i:Nat):Nat:=(List.range n).countP λj=>decide (Kv M i j=some true)
def PH{S:Type}(g:S->ck)(k:ck)(l:S->bA)(P:S->aA->Prop)(A:Ex->ck->aA->bA->Prop):Ex->ck->aA->bA->Prop
 | .normal,i,j,aY=>∃s,jd (g s++k) i/\ah (l s) aY/\P s j
 | x,i,j,aY=>A x i j aY
theorem Pz(a b c d:Nat):((((a:Int)==(c:Int))&&(((b:Int)==(d:Int))&&true))=decide ((a,b)=(c,d))):=by
 rw[T8];simp only[tx,T5,TQ,Tk,Vs];omega
mutual
def Tree.pre:Tree->List Int
 | .mk r _ ks=>r::bK ks
def bK:List Tree->List Int
 | []=>[]
 | t::ts=>t.pre++bK ts
end
def lexLt:List Int->List Int->Prop
 | [],[]=>False
 | [],_::_=>True
 | _::_,[]=>False
 | a::l,b::m=>a<b\/(a=b/\lexLt l m)
theorem uo:∀(l:List Int),¬lexLt l l
 | [],h=>h
 | a::l,h=>by{rcases h with h | h;{omega};{exact uo l h.2}}
theorem w5:∀{l m n:List Int},lexLt l m->lexLt m n->lexLt l n
 | [],[],_,h,_=>h.elim
 | [],_::_,[],_,h=>h.elim
 | [],_::_,_::_,_,_=>trivial
 | _::_,[],_,h,_=>h.elim
 | _::_,_::_,[],_,h=>h.elim
 | a::l,b::m,c::n,h1,g=>by{rcases h1 with h1 | ⟨rfl,h1⟩<;>rcases g with g | ⟨rfl,g⟩;{exact .inl zo};{exact .inl h1};{exact .inl g};{exact .inr ⟨rfl,w5 h1 g⟩}}
theorem wk:∀(l m:List Int),lexLt l m\/l=m\/lexLt m l
 | [],[]=>.inr (.inl rfl)
 | [],_::_=>.inl trivial
 | _::_,[]=>.inr (.inr trivial)
 | a::l,b::m=>by{rcases Int.lt_trichotomy a b with h | rfl | h;{exact .inl (.inl h)};{rcases wk l m with h | rfl | h;{exact .inl (.inr ⟨rfl,h⟩)};{exact .inr (.inl rfl)};{exact .inr (.inr (.inr ⟨rfl,h⟩))}};{exact .inr (.inr (.inl h))}}
theorem BO:∀{l m:List Int} (x y:List Int),l.length=m.length->lexLt l m->lexLt (l++x) (m++y)
 | [],[],_,_,_,h=>h.elim
 | [],_::_,_,_,h,_=>by simp at h
 | _::_,[],_,_,h,_=>by simp at h
 | a::l,b::m,x,y,h,g=>by{rcases g with g | ⟨rfl,g⟩;{exact .inl g};{exact .inr ⟨rfl,BO x y (by simpa using h) g⟩}}
theorem Bu:∀(a:List Int) {x y:List Int},lexLt x y->lexLt (a++x) (a++y)
 | [],_,_,h=>h
 | _::a,_,_,h=>.inr ⟨rfl,Bu a h⟩
def xF(l m:List Int):Prop:=l.length<m.length\/(l.length=m.length/\lexLt l m)
def uV(l m:List Int):Prop:=xF l m\/l=m
theorem rN(l:List Int):¬xF l l:=λh=>by
 rcases h with h | h;{omega};{exact uo l h.2}
theorem nk{l m n:List Int}(h1:xF l m)(g:xF m n):xF l n:=by
 rcases h1 with h1 | ⟨i,h1⟩<;>rcases g with g | ⟨j,g⟩;{exact .inl zo};{exact .inl zo};{exact .inl zo};{exact .inr ⟨by omega,w5 h1 g⟩}
theorem Ji(l m:List Int):xF l m\/l=m\/xF m l:=by
 rcases VV l.length m.length with h | h | h;{exact .inl (.inl h)};{rcases wk l m with h2 | rfl | h2;{exact .inl (.inr ⟨h,h2⟩)};{exact .inr (.inl rfl)};{exact .inr (.inr (.inr ⟨h.symm,h2⟩))}};{exact .inr (.inr (.inl h))}
theorem gp(l:List Int):uV l l:=.inr rfl
theorem k5{l m n:List Int}(h1:uV l m)(g:uV m n):uV l n:=by
 rcases h1 with h1 | rfl;{rcases g with g | rfl;{exact .inl (nk h1 g)};{exact .inl h1}};{exact g}
theorem NA{l m n:List Int}(h1:xF l m)(g:uV m n):xF l n:=by
 rcases g with g | rfl;{exact nk h1 g};{exact h1}
theorem tf{l m n:List Int}(h1:uV l m)(g:xF m n):xF l n:=by
 rcases h1 with h1 | rfl;{exact nk h1 g};{exact g}
theorem qG(l m:List Int):uV l m\/xF m l:=by
 rcases Ji l m with h | h | h;{exact .inl (.inl h)};{exact .inl (.inr h)};{exact .inr h}
theorem x8{l m:List Int}(h:uV l m):l.length<=m.length:=by
 rcases h with (h | h) | rfl<;>omega
theorem zW{a b:List Int}(x y:List Int)(h:xF a b)(g:uV x y):xF (a++x) (b++y):=by
 have i:=x8 g;rcases h with h | ⟨e,h⟩;{exact .inl (by simp;omega)};{by_cases j:x.length=y.length;{exact .inr ⟨by simp;omega,BO x y e h⟩};{exact .inl (by simp;omega)}}
theorem sY(a:List Int){x y:List Int}(h:xF x y):xF (a++x) (a++y):=by
 rcases h with h | ⟨e,h⟩;{exact .inl (by simp;omega)};{exact .inr ⟨by simp;omega,Bu a h⟩}
theorem Ix{a b x y:List Int}(h:uV a b)(g:uV x y):uV (a++x) (b++y):=by
 rcases h with h | rfl;{exact .inl (zW x y h g)};{rcases g with g | rfl;{exact .inl (sY a g)};{exact .inr rfl}}
theorem L1(a:Int){x y:List Int}(h:uV x y):uV (a::x) (a::y):=Ix (gp [a]) h
theorem Gb(a:Int){x y:List Int}(h:xF x y):xF (a::x) (a::y):=sY [a] h
def rL(a b:Tree):Prop:=xF a.pre b.pre
def Ek(a b:Tree):Prop:=uV a.pre b.pre
def LU:List Tree->List Tree->Prop
 | [],[]=>True
 | a::l,b::m=>Ek a b/\LU l m
 | _,_=>False
theorem Is:∀{l m:List Tree},LU l m->uV (bK l) (bK m)
 | [],[],_=>gp _
 | a::l,b::m,h=>Ix h.1 (Is h.2)
 | [],_::_,h=>h.elim
 | _::_,[],h=>h.elim
theorem FB:∀{l:List Tree} {i:Nat} {u t:Tree},l[i]?=some u->rL t u->xF (bK (l.set i t)) (bK l)
 | [],_,_,_,h,_=>by simp at h
 | a::l,0,u,t,h,g=>by{obtain rfl:a=u:=by{simpa using h};exact zW _ _ g (gp _)}
 | a::l,i+1,u,t,h,g=>sY _ (FB (i:=i) (by simpa using h) g)
theorem Ch:∀{l:List Tree} {i:Nat} {u t:Tree},l[i]?=some u->rL u t->xF (bK l) (bK (l.set i t))
 | [],_,_,_,h,_=>by simp at h
 | a::l,0,u,t,h,g=>by{obtain rfl:a=u:=by{simpa using h};exact zW _ _ g (gp _)}
 | a::l,i+1,u,t,h,g=>sY _ (Ch (i:=i) (by simpa using h) g)
theorem nC:∀{l:List Tree} {t:Tree},t∈l->t.pre.length<=(bK l).length
 | a::l,t,h=>by{show _<=(a.pre++bK l).length;rw[sj];rcases PJ.1 h with rfl | h;{omega};{have:=nC h;omega}}
theorem Ly{r:Int}{t:Nat}{ks:List Tree}{k:Tree}(h:k∈ks):rL k (.mk r t ks):=by
 refine .inl ?_;show _<(r::bK ks).length;have:=nC h;simp only[IT];omega
structure Fo where
 n:Nat
 leaf:Nat->Option Nat
 cr:Nat->List gV
mutual
inductive NT(f:Fo):Nat->Tree->Prop
 | leaf {v t:Nat}:v<f.n->f.leaf v=some t->NT f v (.mk (-1) t [])
 | node {v:Nat} {p:gV} {ts:List Tree}:v<f.n->f.leaf v=none->p∈f.cr v->sT f p.kids ts->NT f v (.mk p.aB 0 ts)
inductive sT(f:Fo):List Nat->List Tree->Prop
 | nil:sT f [] []
 | cons {k:Nat} {t:Tree} {ks:List Nat} {ts:List Tree}:NT f k t->sT f ks ts->sT f (k::ks) (t::ts)
end
structure Fo.Good(f:Fo):Prop where
 kids:∀v,v<f.n->∀p∈f.cr v,p.kids.length<=4/\∀k∈p.kids,k<f.n
 dec:∀v T T',NT f v T->NT f v T'->T.pre=T'.pre->T=T'
 uniq:∀v,v<f.n->f.leaf v=none->∀(a b:Nat) (p q:gV),(f.cr v)[a]?=some p->(f.cr v)[b]?=some q->p.aB=q.aB->∀ts,sT f p.kids ts->sT f q.kids ts->a=b
theorem sT.len{f:Fo}:∀{ks:List Nat} {ts:List Tree},sT f ks ts->ts.length=ks.length
 | [],[],_=>rfl
 | _::_,_::_,.cons _ h=>by simp[sT.len h]
theorem sT.at_{f:Fo}:∀{ks:List Nat} {ts:List Tree},sT f ks ts->∀{i k:Nat} {t:Tree},ks[i]?=some k->ts[i]?=some t->NT f k t
 | _::_,_::_,.cons h l,0,k,t,g,j=>by simp at g j;subst g j;exact h
 | _::_,_::_,.cons h l,i+1,k,t,g,j=>sT.at_ l (by simpa using g) (by simpa using j)
 | [],[],_,i,k,t,g,_=>by simp at g
theorem sT.My{f:Fo}:∀{ks:List Nat} {ts:List Tree},ts.length=ks.length->(∀(i k:Nat) (t:Tree),ks[i]?=some k->ts[i]?=some t->NT f k t)->sT f ks ts
 | [],[],_,_=>.nil
 | [],_::_,h,_=>by simp at h
 | _::_,[],h,_=>by simp at h
 | k::ks,t::ts,h,g=>.cons (g 0 k t rfl rfl) (sT.My (by simpa using h) λi k t j l=>g (i+1) k t (by simpa using j) (by simpa using l))
theorem sT.set{f:Fo}{ks:List Nat}{ts:List Tree}(h:sT f ks ts){i k:Nat}{t:Tree}(hk:ks[i]?=some k)(l:NT f k t):sT f ks (ts.set i t):=by
 refine sT.My (by rw[TX];exact h.len) λj o p h1 g=>?_;rw[UM] at g;split at g;{rename_i e;subst e;rw[hk] at h1;cases h1;split at g;{cases g;exact l};{cases g}};{exact h.at_ h1 g}
structure aT where
 node:Nat
 pack:Nat
 r0:Nat
 r1:Nat
 r2:Nat
 r3:Nat
deriving DecidableEq
def aT.cl(c:aT):List Nat:=[c.r0,c.r1,c.r2,c.r3]
def aT.inc(c:aT):Nat->aT
 | 0=>{ c with r0:=c.r0+1 }
 | 1=>{ c with r1:=c.r1+1 }
 | 2=>{ c with r2:=c.r2+1 }
 | 3=>{ c with r3:=c.r3+1 }
 | _=>c
theorem aT.JM(c:aT){i r:Nat}(h:c.cl[i]?=some r):(c.inc i).cl=c.cl.set i (r+1):=by
 match i,h with| 0,h=>{simp[aT.cl] at h;subst h;rfl}| 1,h=>{simp[aT.cl] at h;subst h;rfl}| 2,h=>{simp[aT.cl] at h;subst h;rfl}| 3,h=>{simp[aT.cl] at h;subst h;rfl}| _+4,h=>{simp[aT.cl] at h}
theorem aT.K4(c:aT)(i:Nat):(c.inc i).node=c.node/\(c.inc i).pack=c.pack:=by
 match i with| 0 | 1 | 2 | 3=>{exact⟨rfl,rfl⟩}| _+4=>{exact⟨rfl,rfl⟩}
theorem aT.Rt{c d:aT}(h1:c.node=d.node)(i:c.pack=d.pack)(g:c.cl=d.cl):c=d:=by
 cases c;cases d;simp[aT.cl] at g;simp_all
def pick(L:Nat->List Tree):List Nat->List Nat->Option (List Tree)
 | [],_=>some []
 | k::ks,r::rs=>match (L k)[r]? with
  | some t=>match pick L ks rs with
   | some ts=>some (t::ts)
   | none=>none
  | none=>none
 | _::_,[]=>none
def mW(L:Nat->List Tree):List Nat->List Nat->Option (Nat×Nat)
 | k::ks,r::rs=>match (L k)[r]? with
  | some _=>mW L ks rs
  | none=>some (k,r)
 | _,_=>none
theorem cU{L:Nat->List Tree}:∀{ks rs:List Nat} {ts:List Tree},pick L ks rs=some ts->ts.length=ks.length/\∀(i k:Nat),ks[i]?=some k->∃(r:Nat) (t:Tree),rs[i]?=some r/\(L k)[r]?=some t/\ts[i]?=some t
 | [],_,ts,h=>by{cases h;exact⟨rfl,λi k h=>by simp at h⟩}
 | k::ks,[],_,h=>by cases h
 | k::ks,r::rs,ts,h=>by{unfold pick at h;split at h;{rename_i t l;split at h;{rename_i o g;cases h;obtain⟨h1,p⟩:=cU g;refine⟨by simp[h1],λi j hk=>?_⟩;cases i with| zero=>{obtain rfl:k=j:=by{simpa using hk};exact⟨r,t,rfl,l,rfl⟩}| succ i=>{obtain⟨C,I,J,P,R⟩:=p i j (by simpa using hk);exact⟨C,I,by simpa using J,P,by simpa using R⟩}};{cases h}};{cases h}}
theorem xU{L:Nat->List Tree}:∀{ks rs:List Nat} {ts:List Tree},ts.length=ks.length->(∀(i k:Nat),ks[i]?=some k->∃(r:Nat) (t:Tree),rs[i]?=some r/\(L k)[r]?=some t/\ts[i]?=some t)->pick L ks rs=some ts
 | [],_,ts,h,_=>by{obtain rfl:ts=[]:=BY h;rfl}
 | k::ks,rs,[],h,_=>by simp at h
 | k::ks,rs,t::ts,h,g=>by{obtain⟨r,l,j,o,p⟩:=g 0 k rfl;obtain rfl:t=l:=by{simpa using p};cases rs with| nil=>{simp at j}| cons C rs=>{obtain rfl:C=r:=by{simpa using j};have I:=xU (L:=L) (ks:=ks) (rs:=rs) (ts:=ts) (by simpa using h) (λi k hk=>by{obtain⟨r,t,g1,g2,g3⟩:=g (i+1) k (by simpa using hk);exact⟨r,t,by simpa using g1,g2,by simpa using g3⟩});unfold pick;simp only[o,I]}}
theorem BA{L:Nat->List Tree}:∀{ks rs:List Nat},ks.length<=rs.length->mW L ks rs=none->∃ts,pick L ks rs=some ts
 | [],_,_,_=>⟨[],rfl⟩
 | k::ks,[],h,_=>by simp at h
 | k::ks,r::rs,h,g=>by{unfold mW at g;split at g;{rename_i t j;obtain⟨ts,i⟩:=BA (by simpa using h) g;exact⟨t::ts,by unfold pick;simp only[j,i]⟩};{cases g}}
theorem kT{L:Nat->List Tree}:∀{ks rs:List Nat} {k r:Nat},mW L ks rs=some (k,r)->∃i:Nat,ks[i]?=some k/\rs[i]?=some r/\(L k)[r]?=none
 | [],_,_,_,h=>by cases h
 | _::_,[],_,_,h=>by cases h
 | k0::ks,r0::rs,k,r,h=>by{unfold mW at h;split at h;{obtain⟨i,h1,g,j⟩:=kT h;exact⟨i+1,by simpa using h1,by simpa using g,j⟩};{rename_i l;cases h;exact⟨0,rfl,rfl,l⟩}}
def JZ(L g:Nat->List Tree):Prop:=∀v,∃x,g v=L v++x
theorem JZ.at_{L g:Nat->List Tree}(h:JZ L g){v r:Nat}{t:Tree}(i:(L v)[r]?=some t):(g v)[r]?=some t:=by
 obtain⟨x,j⟩:=h v;rw[j,AT (gS i).1];exact i
theorem J9{L g:Nat->List Tree}(h:JZ L g){ks rs:List Nat}{ts:List Tree}(hp:pick L ks rs=some ts):pick g ks rs=some ts:=by
 obtain⟨h1,j⟩:=cU hp;exact xU h1 λi k hk=>by{obtain⟨r,t,l,o,p⟩:=j i k hk;exact⟨r,t,l,h.at_ o,p⟩}
theorem CG{L i:Nat->List Tree}(h:JZ L i):∀{ks rs:List Nat} {k r:Nat},mW L ks rs=some (k,r)->(i k)[r]?=none->mW i ks rs=some (k,r)
 | [],_,_,_,g,_=>by cases g
 | _::_,[],_,_,g,_=>by cases g
 | k0::ks,r0::rs,k,r,g,j=>by{unfold mW at g;split at g;{rename_i t l;have:=h.at_ l;unfold mW;simp only[this];exact CG h g j};{cases g;unfold mW;simp only[j]}}
structure pS where
 lists:Nat->List Tree
 seen:List aT
 waits:Nat×Nat->List aT
 q:List (aT×Tree)
def eP(f:Fo)(c:aT):Option gV:=(f.cr c.node)[c.pack]?
def cY(f:Fo)(L:Nat->List Tree)(c:aT):Option Tree:=match eP f c with
 | some p=>match pick L p.kids c.cl with
  | some ts=>some (.mk p.aB 0 ts)
  | none=>none
 | none=>none
theorem dE{f:Fo}{L:Nat->List Tree}{c:aT}{T:Tree}(h:cY f L c=some T):∃p ts,eP f c=some p/\pick L p.kids c.cl=some ts/\T=.mk p.aB 0 ts:=by
 unfold cY at h;split at h;{rename_i p hp;split at h;{rename_i ts g;cases h;exact⟨p,ts,hp,g,rfl⟩};{cases h}};{cases h}
theorem pd{f:Fo}{L:Nat->List Tree}{c:aT}{p:gV}{ts:List Tree}(h1:eP f c=some p)(g:pick L p.kids c.cl=some ts):cY f L c=some (.mk p.aB 0 ts):=by
 unfold cY;simp only[h1,g]
theorem jO{f:Fo}{L g:Nat->List Tree}(h:JZ L g){c:aT}{T:Tree}(i:cY f L c=some T):cY f g c=some T:=by
 obtain⟨p,ts,h1,j,rfl⟩:=dE i;exact pd h1 (J9 h j)
structure mm(f:Fo)(most:Nat)(c:aT):Prop where
 node:c.node<f.n
 nl:f.leaf c.node=none
 pack:∃p,eP f c=some p
 Nt:∀r∈c.cl,r<=most
 zero:∀p,eP f c=some p->∀(i r:Nat),p.kids.length<=i->c.cl[i]?=some r->r=0
structure Inv(f:Fo)(most:Nat)(s:pS)(done pend ex:List aT):Prop where
 ok:∀c∈s.seen,mm f most c
 snd:s.seen.Nodup
 oQ:∀c∈done,c∈s.seen
 vH:∀c∈pend,c∈s.seen
 GR:done.Nodup
 MP:pend.Nodup
 I3:(s.q.map (·.1)).Nodup
 Gy:∀w,(s.waits w).Nodup
 dq:∀c∈done,c∉s.q.map (·.1)/\c∉pend/\∀w,c∉s.waits w
 pq:∀c∈pend,c∉s.q.map (·.1)/\∀w,c∉s.waits w
 qw:∀c∈s.q.map (·.1),∀w,c∉s.waits w
 yH:∀x∈s.q,x.1∈s.seen/\cY f s.lists x.1=some x.2
 qZ:∀w,∀c∈s.waits w,c∈s.seen/\∃p,eP f c=some p/\mW s.lists p.kids c.cl=some w
 cover:∀c∈s.seen,c∈done\/c∈pend\/c∈s.q.map (·.1)\/∃w,c∈s.waits w
 next:∀c∈done,c∈ex\/(s.lists c.node).length=most\/((∃T∈s.lists c.node,cY f s.lists c=some T)/\∀p,eP f c=some p->∀i,i<p.kids.length->c.inc i∈s.seen)
 lR:∀v t,v<f.n->f.leaf v=some t->s.lists v=[.mk (-1) t []]
 from_:∀v,f.leaf v=none->∀T∈s.lists v,∃c∈done,c.node=v/\cY f s.lists c=some T
 len:∀v,(s.lists v).length<=most
 sorted:∀v,(s.lists v).Pairwise rL
 ord:∀v,f.leaf v=none->∀x∈s.lists v,∀y∈s.q,Ek x y.2
 valid:∀v,∀T∈s.lists v,NT f v T
 full:∀v,f.leaf v=none->(s.lists v).length=most->∀T,NT f v T->T∉s.lists v->∀x∈s.lists v,rL x T
 small:∀v,∀T∈s.lists v,T.pre.length<=5000
def oB(f:Fo)(s:pS):Prop:=∀v,v<f.n->f.leaf v=none->∀p,p<(f.cr v).length->(⟨v,p,0,0,0,0⟩:aT)∈s.seen
theorem sS{f:Fo}{L:Nat->List Tree}(j:∀v,∀T∈L v,NT f v T){ks rs:List Nat}{ts:List Tree}(h:pick L ks rs=some ts):sT f ks ts:=by
 obtain⟨h1,l⟩:=cU h;exact sT.My h1 λi k t hk g=>by{obtain⟨r,C,I,o,p⟩:=l i k hk;rw[p] at g;cases g;exact j _ _ (gM o)}
theorem GY{f:Fo}{most:Nat}{L:Nat->List Tree}(i:∀v,∀T∈L v,NT f v T){c:aT}(g:mm f most c){T:Tree}(h:cY f L c=some T):NT f c.node T:=by
 obtain⟨p,ts,h1,j,rfl⟩:=dE h;exact .node g.node g.nl (gM h1) (sS i j)
theorem Cv{l:List Tree}(h:l.Pairwise rL):l.Nodup:=by
 rw[TP];refine h.imp ?_;rintro a b g rfl;exact rN _ g
theorem Gj{α:Type}{l:List α}(h:l.Nodup){i j:Nat}{x:α}(hi:l[i]?=some x)(g:l[j]?=some x):i=j:=by
 obtain⟨h1,o⟩:=gS hi;obtain⟨r,p⟩:=gS g;exact(List.getElem_inj h).1 (o.trans p.symm)
theorem KZ{f:Fo}(R:f.Good){most:Nat}{L:Nat->List Tree}(o:∀v,∀T∈L v,NT f v T)(hs:∀v,(L v).Pairwise rL){c d:aT}(j:mm f most c)(U:mm f most d)(l:c.node=d.node){T:Tree}(h1:cY f L c=some T)(h2:cY f L d=some T):c=d:=by
 obtain⟨p,ts,g,C,rfl⟩:=dE h1;obtain⟨q,us,g1,g2,g3⟩:=dE h2;injection g3 with g3 _ g4;subst g4;have hr:p.aB=q.aB:=by{omega};(unfold eP at g g1;rw[<-l] at g1;have hp:=R.uniq c.node j.node j.nl c.pack d.pack p q g g1 hr ts (sS o C) (sS o g2);rw[<-hp,g] at g1;cases g1;refine aT.Rt l hp (V4 (by rfl) λi hi hj=>?_);have r1:c.cl[i]?=some c.cl[i]:=gE hi;have r2:d.cl[i]?=some d.cl[i]:=gE hj;rcases IN i p.kids.length with hk | hk);{obtain⟨k,hk⟩:∃k,p.kids[i]?=some k:=⟨_,gE hk⟩;obtain⟨_,f1⟩:=cU C;obtain⟨_,f2⟩:=cU g2;obtain⟨r,t,I,a2,a3⟩:=f1 i k hk;obtain⟨r',t',J,b2,P⟩:=f2 i k hk;rw[a3] at P;cases P;rw[r1] at I;cases I;rw[r2] at J;cases J;exact Gj (Cv (hs k)) a2 b2};{have z1:=j.zero p (by unfold eP;exact g) i _ hk r1;have z2:=U.zero p (by unfold eP;rw[<-l,<-hp];exact g) i _ hk r2;omega}
def xC(f:Fo)(s:pS)(c:aT):pS:=match eP f c with
 | none=>s
 | some p=>match mW s.lists p.kids c.cl with
  | some w=>{ s with waits:=λx=>if x=w then s.waits w++[c] else s.waits x }
  | none=>match pick s.lists p.kids c.cl with
   | some ts=>{ s with q:=s.q++[(c,.mk p.aB 0 ts)] }
   | none=>s
theorem Cr(f:Fo)(s:pS)(c:aT):(xC f s c).lists=s.lists/\(xC f s c).seen=s.seen:=by
 unfold xC;split;{exact⟨rfl,rfl⟩};{split;{exact⟨rfl,rfl⟩};{split<;>exact⟨rfl,rfl⟩}}
theorem Inv.QK{f:Fo}(hf:f.Good){most:Nat}{s:pS}{done j ex:List aT}{c:aT}(h:Inv f most s done (c::j) ex)(hT:∀T,cY f s.lists c=some T->∀v,f.leaf v=none->∀x∈s.lists v,Ek x T):Inv f most (xC f s c) done j ex:=by
 have o:=h.vH c me;have r:=h.ok c o;obtain⟨p,hp⟩:=r.pack;have R:p.kids.length<=4:=(hf.kids _ r.node p (gM hp)).1;obtain⟨t,l⟩:=TJ.1 h.MP;have i:=h.pq c me;have C:∀d∈done,d≠c:=λd hd e=>(h.dq d hd).2.1 (by rw[e];exact D2 ..);unfold xC;simp only[hp];cases hm:mW s.lists p.kids c.cl with
 | some w=>
  simp only;have g:∀x d,d∈(if x=w then s.waits w++[c] else s.waits x)->d∈s.waits x\/(x=w/\d=c):=by
   intro x d hd;split at hd
   ·rename_i e;subst e;rcases D1.1 hd with hd | hd
    ·exact .inl hd
    ·exact .inr ⟨rfl,ti.1 hd⟩
   ·exact .inl hd
  exact
  {ok:=h.ok
   snd:=h.snd
   oQ:=h.oQ
   vH:=λd hd=>h.vH d (mb _ hd)
   GR:=h.GR
   MP:=l
   I3:=h.I3
   Gy:=λx=>by
    show (if x=w then s.waits w++[c] else s.waits x).Nodup;split
    ·rw[Uf];refine⟨h.Gy w,by simp,λa U b P e=>?_⟩;rw[ti.1 P] at e;subst e;exact i.2 w U
    ·exact h.Gy x
   dq:=λd hd=>⟨(h.dq d hd).1,λhm=>(h.dq d hd).2.1 (mb _ hm),λx hx=>by
    rcases g x d hx with hx | ⟨_,rfl⟩
    ·exact(h.dq d hd).2.2 x hx
    ·exact C d hd rfl⟩
   pq:=λd hd=>⟨(h.pq d (mb _ hd)).1,λx hx=>by
    rcases g x d hx with hx | ⟨_,rfl⟩
    ·exact(h.pq d (mb _ hd)).2 x hx
    ·exact t hd⟩
   qw:=λd hd x hx=>by
    rcases g x d hx with hx | ⟨_,rfl⟩
    ·exact h.qw d hd x hx
    ·exact i.1 hd
   yH:=h.yH
   qZ:=λx d hd=>by
    rcases g x d hd with hx | ⟨rfl,rfl⟩
    ·exact h.qZ x d hx
    ·exact⟨o,p,hp,hm⟩
   cover:=λd hd=>by
    rcases h.cover d hd with hx | hx | hx | ⟨x,hx⟩
    ·exact .inl hx
    ·rcases PJ.1 hx with rfl | hx
     ·exact .inr (.inr (.inr ⟨w,by show d∈(if w=w then s.waits w++[d] else s.waits w);simp⟩))
     ·exact .inr (.inl hx)
    ·exact .inr (.inr (.inl hx))
    ·refine .inr (.inr (.inr ⟨x,?_⟩));show d∈(if x=w then s.waits w++[c] else s.waits x);split
     ·rename_i e;subst e;exact Te _ hx
     ·exact hx
   next:=h.next
   lR:=h.lR
   from_:=h.from_
   len:=h.len
   sorted:=h.sorted
   ord:=h.ord
   valid:=h.valid
   full:=h.full
   small:=h.small }
 | none=>
  simp only;obtain⟨ts,I⟩:=BA (by show p.kids.length<=4;exact R) hm;have J:=pd hp I;simp only[I];exact
  {ok:=h.ok
   snd:=h.snd
   oQ:=h.oQ
   vH:=λd hd=>h.vH d (mb _ hd)
   GR:=h.GR
   MP:=l
   I3:=by
    rw[Th,Uf];refine⟨h.I3,by simp,λa U b P e=>?_⟩;simp at P;subst P e;exact i.1 U
   Gy:=h.Gy
   dq:=λd hd=>⟨λhx=>by
    rw[Th] at hx;rcases D1.1 hx with hx | hx
    ·exact(h.dq d hd).1 hx
    ·exact C d hd (by simpa using hx),λhm=>(h.dq d hd).2.1 (mb _ hm),(h.dq d hd).2.2⟩
   pq:=λd hd=>⟨λhx=>by
    rw[Th] at hx;rcases D1.1 hx with hx | hx
    ·exact(h.pq d (mb _ hd)).1 hx
    ·have:d=c:=by simpa using hx
     subst this;exact t hd,(h.pq d (mb _ hd)).2⟩
   qw:=λd hx x hw=>by
    rw[Th] at hx;rcases D1.1 hx with hx | hx
    ·exact h.qw d hx x hw
    ·have:d=c:=by simpa using hx
     subst this;exact i.2 x hw
   yH:=λx hx=>by
    rcases D1.1 hx with hx | hx
    ·exact h.yH x hx
    ·rw[ti.1 hx];exact⟨o,J⟩
   qZ:=h.qZ
   cover:=λd hd=>by
    rcases h.cover d hd with hx | hx | hx | hx
    ·exact .inl hx
    ·rcases PJ.1 hx with rfl | hx
     ·exact .inr (.inr (.inl (by rw[Th];simp)))
     ·exact .inr (.inl hx)
    ·exact .inr (.inr (.inl (by rw[Th];exact Te _ hx)))
    ·exact .inr (.inr (.inr hx))
   next:=h.next
   lR:=h.lR
   from_:=h.from_
   len:=h.len
   sorted:=h.sorted
   ord:=λv hv x hx y hy=>by
    rcases D1.1 hy with hy | hy
    ·exact h.ord v hv x hx y hy
    ·rw[ti.1 hy];exact hT _ J v hv x hx
   valid:=h.valid
   full:=h.full
   small:=h.small }
def ji(f:Fo)(s:pS)(c:aT):pS:=if c∈s.seen then s else xC f { s with seen:=s.seen++[c] } c
theorem wJ(f:Fo)(s:pS)(c:aT):(ji f s c).lists=s.lists/\(∀d∈s.seen,d∈(ji f s c).seen)/\c∈(ji f s c).seen/\(ji f s c).seen.length<=s.seen.length+1:=by
 unfold ji;split;{rename_i h;exact⟨rfl,λd g=>g,h,by omega⟩};{obtain⟨h1,i⟩:=Cr f { s with seen:=s.seen++[c] } c;rw[i];exact⟨h1,λd g=>Te _ g,by simp,by simp⟩}
theorem Inv.Qu{f:Fo}{most:Nat}{s:pS}{done ex:List aT}{c:aT}(h:Inv f most s done [] ex)(o:mm f most c)(g:c∉s.seen):Inv f most { s with seen:=s.seen++[c] } done [c] ex:=by
 have j:∀{d:aT},d∈s.seen->d∈s.seen++[c]:=λh=>Te _ h;have l:c∉s.q.map (·.1):=λhx=>by
  obtain⟨y,r,rfl⟩:=x6.1 hx;exact g (h.yH y r).1
 exact
 {ok:=λd hd=>by
   rcases D1.1 hd with hd | hd
   ·exact h.ok d hd
   ·rw[ti.1 hd];exact o
  snd:=by
   show (s.seen++[c]).Nodup;rw[Uf];refine⟨h.snd,by simp,λa t b C e=>?_⟩;rw[ti.1 C] at e;subst e;exact g t
  oQ:=λd hd=>j (h.oQ d hd)
  vH:=λd hd=>by rw[ti.1 hd];simp
  GR:=h.GR
  MP:=by simp
  I3:=h.I3
  Gy:=h.Gy
  dq:=λd hd=>⟨(h.dq d hd).1,λhx=>by rw[ti.1 hx] at hd;exact g (h.oQ c hd),(h.dq d hd).2.2⟩
  pq:=λd hd=>by
   rw[ti.1 hd];exact⟨l,λw hw=>g (h.qZ w c hw).1⟩
  qw:=h.qw
  yH:=λx hx=>⟨j (h.yH x hx).1,(h.yH x hx).2⟩
  qZ:=λw d hd=>⟨j (h.qZ w d hd).1,(h.qZ w d hd).2⟩
  cover:=λd hd=>by
   rcases D1.1 hd with hd | hd
   ·rcases h.cover d hd with hx | hx | hx
    ·exact .inl hx
    ·cases hx
    ·exact .inr (.inr hx)
   ·exact .inr (.inl hd)
  next:=λd hd=>(h.next d hd).imp id λhx=>hx.imp id λhx=>⟨hx.1,λp hp i hi=>j (hx.2 p hp i hi)⟩
  lR:=h.lR
  from_:=h.from_
  len:=h.len
  sorted:=h.sorted
  ord:=h.ord
  valid:=h.valid
  full:=h.full
  small:=h.small }
theorem Inv.Lx{f:Fo}(g:f.Good){most:Nat}{s:pS}{done ex:List aT}{c:aT}(h:Inv f most s done [] ex)(i:mm f most c)(hT:∀T,cY f s.lists c=some T->∀v,f.leaf v=none->∀x∈s.lists v,Ek x T):Inv f most (ji f s c) done [] ex:=by
 unfold ji;split;{exact h};{rename_i j;exact Inv.QK g (s:={ s with seen:=s.seen++[c] }) (h.Qu i j) hT}
theorem IZ{α:Type}[DecidableEq α]:∀(A B:List α),A.Nodup->(∀x∈A,x∈B)->B.length<=A.length->∀x∈B,x∈A
 | [],B,_,_,h,x,g=>by{obtain rfl:B=[]:=BY (by simpa using h);cases g}
 | a::A,B,p,hs,r,x,g=>by{obtain⟨h1,t⟩:=TJ.1 p;have j:=hs a me;have hle:=UH j;have l:=VZ j;by_cases e:x=a;{subst e;exact D2 ..};{have i:x∈B.erase a:=(VE e).2 g;refine mb _ (IZ A (B.erase a) t (λy o=>?_) (by simp at r;omega) x i);exact(VE (by rintro rfl;exact h1 o)).2 (hs y (mb _ o))}}
theorem qL{α:Type}[DecidableEq α]:∀(A B:List α),A.Nodup->(∀x∈A,x∈B)->A.length<=B.length
 | [],_,_,_=>If _
 | a::A,B,l,hs=>by{obtain⟨h1,o⟩:=TJ.1 l;have g:=hs a me;have hle:=UH g;have i:=VZ g;have:=qL A (B.erase a) o λy j=>(VE (by rintro rfl;exact h1 j)).2 (hs y (mb _ j));simp only[IT];omega}
open Classical in
noncomputable def MO(L:Nat->List Tree):List Nat->List Tree->Nat
 | k::ks,t::ts=>(if t∈L k then 0 else 1)+MO L ks ts
 | _,_=>0
theorem HN(L:Nat->List Tree):∀(ks:List Nat) (ts:List Tree),MO L ks ts<=ks.length
 | [],_=>mc _
 | _::_,[]=>If _
 | k::ks,t::ts=>by{have:=HN L ks ts;unfold MO;simp only[IT];split<;>omega}
theorem Im{L:Nat->List Tree}:∀{ks:List Nat} {ts:List Tree} {i k:Nat} {t x:Tree},ks[i]?=some k->ts[i]?=some t->t∉L k->x∈L k->MO L ks (ts.set i x)<MO L ks ts
 | [],_,_,_,_,_,h,_,_,_=>by simp at h
 | _::_,[],_,_,_,_,_,h,_,_=>by simp at h
 | k0::ks,t0::ts,0,k,t,x,h1,g,j,l=>by{obtain rfl:k0=k:=by{simpa using h1};obtain rfl:t0=t:=by{simpa using g};show MO L (k0::ks) (x::ts)<_;unfold MO;rw[n0 l,nw j];omega}
 | k0::ks,t0::ts,i+1,k,t,x,h1,g,j,l=>by{have:=Im (L:=L) (ks:=ks) (ts:=ts) (i:=i) (by simpa using h1) (by simpa using g) j l;show MO L (k0::ks) (t0::ts.set i x)<_;unfold MO;omega}
def Ah(s:pS)(most:Nat)(v:Nat)(T:Tree):Prop:=T∈s.lists v\/(∃y∈s.q,Ek y.2 T)\/((s.lists v).length=most/\∀x∈s.lists v,rL x T)
theorem Fv:∀{l m:List Tree},l.length=m.length->(∀(i:Nat) (a b:Tree),l[i]?=some a->m[i]?=some b->Ek a b)->LU l m
 | [],[],_,_=>trivial
 | [],_::_,h,_=>by simp at h
 | _::_,[],h,_=>by simp at h
 | a::l,b::m,h,g=>⟨g 0 a b rfl rfl,Fv (by simpa using h) λi a b j o=>g (i+1) a b (by simpa using j) (by simpa using o)⟩
theorem Jl{l:List Tree}(h:l.Pairwise rL){i j:Nat}{a b:Tree}(p:i<=j)(o:l[i]?=some a)(g:l[j]?=some b):Ek a b:=by
 rcases IN i j with h1 | h1;{obtain⟨r,rfl⟩:=gS o;obtain⟨t,rfl⟩:=gS g;exact .inl (TS.1 h i j r t h1)};{obtain rfl:i=j:=by{omega};rw[o] at g;cases g;exact gp _}
theorem FL{L:Nat->List Tree}:∀{ks:List Nat} {ts:List Tree},ts.length=ks.length->(∀(i k:Nat) (t:Tree),ks[i]?=some k->ts[i]?=some t->t∈L k)->
  ∃rs:List Nat,rs.length=ks.length/\∀(i k:Nat) (t:Tree),ks[i]?=some k->ts[i]?=some t->∃r,rs[i]?=some r/\(L k)[r]?=some t
 | [],_,_,_=>⟨[],rfl,λi k t h=>by simp at h⟩
 | _::_,[],h,_=>by simp at h
 | k::ks,t::ts,h,l=>by{obtain⟨rs,C,I⟩:=FL (L:=L) (ks:=ks) (ts:=ts) (by simpa using h) λi k t g j=>l (i+1) k t (by simpa using g) (by simpa using j);obtain⟨r,J⟩:=Vc.1 (l 0 k t rfl rfl);refine⟨r::rs,by simp[C],λi o p g j=>?_⟩;cases i with| zero=>{obtain rfl:k=o:=by{simpa using g};obtain rfl:t=p:=by{simpa using j};exact⟨r,rfl,J⟩}| succ i=>{obtain⟨P,R,U⟩:=I i o p (by simpa using g) (by simpa using j);exact⟨P,by simpa using R,U⟩}}
theorem LM:∀(rs:List Nat),rs.length<=4->∃c:Nat×Nat×Nat×Nat,(∀(i r:Nat),rs[i]?=some r->[c.1,c.2.1,c.2.2.1,c.2.2.2][i]?=some r)/\∀(i r:Nat),rs.length<=i->[c.1,c.2.1,c.2.2.1,c.2.2.2][i]?=some r->r=0
 | [],_=>⟨(0,0,0,0),λi r h=>by simp at h,λi r _ h=>by
   match i with
   | 0 | 1 | 2 | 3=>simpa using h.symm
   | _+4=>simp at h⟩
 | [a],_=>⟨(a,0,0,0),λi r h=>by
   match i with
   | 0=>simpa using h
   | _+1=>simp at h,λi r g h=>by
   match i with
   | 0=>simp at g
   | 1 | 2 | 3=>simpa using h.symm
   | _+4=>simp at h⟩
 | [a,b],_=>⟨(a,b,0,0),λi r h=>by
   match i with
   | 0 | 1=>simpa using h
   | _+2=>simp at h,λi r g h=>by
   match i with
   | 0 | 1=>simp at g
   | 2 | 3=>simpa using h.symm
   | _+4=>simp at h⟩
 | [a,b,c],_=>⟨(a,b,c,0),λi r h=>by
   match i with
   | 0 | 1 | 2=>simpa using h
   | _+3=>simp at h,λi r g h=>by
   match i with
   | 0 | 1 | 2=>simp at g
   | 3=>simpa using h.symm
   | _+4=>simp at h⟩
 | [a,b,c,d],_=>⟨(a,b,c,d),λi r h=>h,λi r g h=>by
   match i with
   | 0 | 1 | 2 | 3=>simp at g
   | _+4=>simp at h⟩
 | _::_::_::_::_::_,h=>by simp at h
theorem Inv.QE{f:Fo}(hf:f.Good){most:Nat}{s:pS}{done:List aT}(h:Inv f most s done [] []){z:aT}{p:gV}{ts:List Tree}(hz:eP f z=some p)(j:pick s.lists p.kids z.cl=some ts)
  (al:∀(i r:Nat),p.kids.length<=i->z.cl[i]?=some r->r=0) (hv:NT f z.node (.mk p.aB 0 ts)) (av:p.kids.length<=4) :
  ∀(D:Nat) (c:aT),c∈s.seen->c.node=z.node->c.pack=z.pack->c.r0<=z.r0->c.r1<=z.r1->c.r2<=z.r2->c.r3<=z.r3->z.r0+z.r1+z.r2+z.r3-(c.r0+c.r1+c.r2+c.r3)<=D->Ah s most z.node (.mk p.aB 0 ts):=by
 intro D;induction D with| zero=>{intro c R g hp o h1 C I hD;obtain rfl:c=z:=by{cases c;cases z;simp only at g hp o h1 C I hD;simp only[aT.mk.injEq];exact⟨g,hp,by omega,by omega,by omega,by omega⟩};have ac:=pd hz j;rcases h.cover c R with hx | hx | hx | ⟨w,hx⟩;{rcases h.next c hx with hy | hy | ⟨⟨T,hy,ad⟩,_⟩;{cases hy};{by_cases hm:Tree.mk p.aB 0 ts∈s.lists c.node;{exact .inl hm};{exact .inr (.inr ⟨hy,h.full _ (h.ok c R).nl hy _ hv hm⟩)}};{rw[ac] at ad;cases ad;exact .inl hy}};{cases hx};{obtain⟨y,hy,rfl⟩:=x6.1 hx;have:=(h.yH y hy).2;rw[ac] at this;exact .inr (.inl ⟨y,hy,by rw[<-aE this];exact gp _⟩)};{obtain⟨_,p',l,hm⟩:=h.qZ w c hx;rw[hz] at l;cases l;obtain⟨i,U,J,e3⟩:=kT (k:=w.1) (r:=w.2) hm;obtain⟨r,t,g1,g2,_⟩:=(cU j).2 i _ U;rw[J] at g1;cases g1;rw[e3] at g2;cases g2}}| succ D ih=>{intro c R g hp o h1 C I hD;have P:eP f c=some p:=by{unfold eP at hz ⊢;rw[g,hp];exact hz};by_cases e:c=z;{exact ih c R g hp o h1 C I (by subst e;omega)};have hle:∀(i a b:Nat),c.cl[i]?=some a->z.cl[i]?=some b->a<=b:=λi a b ha hb=>by{match i with| 0 | 1 | 2 | 3=>{simp[aT.cl] at ha hb;omega}| _+4=>{simp[aT.cl] at ha}};rcases h.cover c R with hx | hx | hx | ⟨w,hx⟩;{rcases h.next c hx with hy | hy | ⟨_,hy⟩;{cases hy};{rw[g] at hy;by_cases hm:Tree.mk p.aB 0 ts∈s.lists z.node;{exact .inl hm};{exact .inr (.inr ⟨hy,h.full _ (g▸(h.ok c R).nl) hy _ hv hm⟩)}};{have hy:=hy p P;have lt:∀(i a b:Nat),c.cl[i]?=some a->z.cl[i]?=some b->a<b->i<p.kids.length:=λi a b ha hb ay=>by{rcases IN i p.kids.length with h5 | h5;{exact h5};{have:=al i b h5 hb;omega}};by_cases g0:c.r0<z.r0;{have hi:=hy 0 (lt 0 _ _ rfl rfl g0);exact ih (c.inc 0) hi g hp g0 h1 C I (by show _-(c.r0+1+c.r1+c.r2+c.r3)<=D;omega)};by_cases g1:c.r1<z.r1;{have hi:=hy 1 (lt 1 _ _ rfl rfl g1);exact ih (c.inc 1) hi g hp o g1 C I (by show _-(c.r0+(c.r1+1)+c.r2+c.r3)<=D;omega)};by_cases g2:c.r2<z.r2;{have hi:=hy 2 (lt 2 _ _ rfl rfl g2);exact ih (c.inc 2) hi g hp o h1 g2 I (by show _-(c.r0+c.r1+(c.r2+1)+c.r3)<=D;omega)};by_cases g3:c.r3<z.r3;{have hi:=hy 3 (lt 3 _ _ rfl rfl g3);exact ih (c.inc 3) hi g hp o h1 C g3 (by show _-(c.r0+c.r1+c.r2+(c.r3+1))<=D;omega)};exfalso;apply e;cases c;cases z;simp only at g hp o h1 C I g0 g1 g2 g3;simp only[aT.mk.injEq];exact⟨g,hp,by omega,by omega,by omega,by omega⟩}};{cases hx};{obtain⟨y,hy,rfl⟩:=x6.1 hx;obtain⟨q,us,U,J,e3⟩:=dE (h.yH y hy).2;rw[P] at U;cases U;refine .inr (.inl ⟨y,hy,?_⟩);rw[e3];refine L1 _ (Is (Fv (by rw[(cU J).1,(cU j).1]) λi a b ha hb=>?_));have hi:=(gS ha).1;rw[(cU J).1] at hi;obtain⟨k,hk⟩:∃k,p.kids[i]?=some k:=⟨_,gE hi⟩;obtain⟨r,t,a1,a2,a3⟩:=(cU J).2 i k hk;obtain⟨r',t',b1,b2,b3⟩:=(cU j).2 i k hk;rw[ha] at a3;cases a3;rw[hb] at b3;cases b3;exact Jl (h.sorted k) (hle i _ _ a1 b1) a2 b2};{obtain⟨_,p',l,hm⟩:=h.qZ w c hx;rw[P] at l;cases l;obtain⟨i,U,J,e3⟩:=kT (k:=w.1) (r:=w.2) hm;obtain⟨r,t,g1,g2,_⟩:=(cU j).2 i _ U;have:=hle i _ _ J g1;have h5:=(gS g2).1;rw[gE (show w.2<_ by omega)] at e3;cases e3}}
theorem Np{α:Type}{l:List α}{i:Nat}{a b:α}(h:i<l.length)(e:l.set i a=l.set i b):a=b:=by
 have h1:=congrArg (λm=>m[i]?) e;simpa [h] using h1
theorem Inv.MX{f:Fo}(hf:f.Good){most:Nat}{s:pS}{done:List aT}(h:Inv f most s done [] [])(hb:oB f s):∀(N v:Nat) (p:gV) (ts:List Tree),v<f.n->f.leaf v=none->p∈f.cr v->sT f p.kids ts->
  (Tree.mk p.aB 0 ts).pre.length*5+MO s.lists p.kids ts<N->Ah s most v (.mk p.aB 0 ts):=by
 intro N
 induction N with
 | zero=>intro v p ts _ _ _ _ hN;omega
 | succ N ih=>
  intro v p ts hv hl hp C hN;have an:=(hf.kids v hv p hp).1;have hlen:=C.len;have P:NT f v (.mk p.aB 0 ts):=.node hv hl hp C;by_cases g:∀(i k:Nat) (t:Tree),p.kids[i]?=some k->ts[i]?=some t->t∈s.lists k
  ·obtain⟨rs,h1,h2⟩:=FL hlen g;obtain⟨⟨a0,a1,a2,a3⟩,h3,h4⟩:=LM rs zo;obtain⟨j,hj⟩:=Vc.1 hp;have ao:=(gS hj).1;have ar:pick s.lists p.kids [a0,a1,a2,a3]=some ts:=xU hlen λi k hk=>by
    have hi:=(gS hk).1;obtain⟨t,I⟩:∃t,ts[i]?=some t:=⟨_,gE zo⟩;obtain⟨r,e1,e2⟩:=h2 i k t hk I;exact⟨r,t,h3 i r e1,e2,I⟩
   exact h.QE hf (z:=⟨v,j,a0,a1,a2,a3⟩) hj ar (λi r hi hr=>h4 i r zo hr) P an _ ⟨v,j,0,0,0,0⟩ (hb v hv hl j ao) rfl rfl (If _) (If _) (If _) (If _) (mc _)
  ·have ⟨i,g⟩:=Classical.not_forall.1 g;have ⟨k,g⟩:=Classical.not_forall.1 g;have ⟨t,g⟩:=Classical.not_forall.1 g;have ⟨hk,g⟩:=Classical.not_imp.1 g;have ⟨I,R⟩:=Classical.not_imp.1 g;have av:=C.at_ hk I;have U:=gM I;have ax:=Ly (r:=p.aB) (t:=0) U;have hu:=HN s.lists p.kids ts;have hB:Ah s most k t:=by
    cases av with
    | leaf h5 h6=>exact .inl (by rw[h.lR k _ h5 h6];exact D2 ..)
    | @node _ q us h5 h6 h7 h8=>
     refine ih k q us h5 h6 h7 h8 ?_;have h9:=HN s.lists q.kids us;have bx:=(hf.kids k h5 q h7).1;have b0:(Tree.mk (q.aB:Int) 0 us).pre.length<(Tree.mk (p.aB:Int) 0 ts).pre.length:=by
      show _<(_::bK ts).length;have:=nC U;simp only[IT];omega
     omega
   rcases hB with hB | ⟨y,hy,hB⟩ | ⟨b1,a5⟩
   ·exact absurd hB R
   ·exact .inr (.inl ⟨y,hy,.inl (tf hB ax)⟩)
   ·have a6:i<ts.length:=(gS I).1;have small:∀x∈s.lists k,rL (.mk p.aB 0 (ts.set i x)) (.mk p.aB 0 ts):=λx o=>Gb _ (FB I (a5 x o));have each:∀x∈s.lists k,Ah s most v (.mk p.aB 0 (ts.set i x)):=λx o=>by
     refine ih v p (ts.set i x) hv hl hp (C.set hk (h.valid k x o)) ?_;have h1:=Im (L:=s.lists) hk I R o;have h2:=x8 (.inl (small x o));omega
    by_cases hq:∃y∈s.q,Ek y.2 (.mk p.aB 0 ts)
    ·exact .inr (.inl hq)
    by_cases l:(s.lists v).length=most/\∀z∈s.lists v,rL z (.mk p.aB 0 ts)
    ·exact .inr (.inr l)
    have inl:∀x∈s.lists k,Tree.mk p.aB 0 (ts.set i x)∈s.lists v:=λx o=>by
     rcases each x o with h1 | ⟨y,hy,h1⟩ | ⟨h1,h2⟩
     ·exact h1
     ·exact absurd ⟨y,hy,.inl (tf h1 (small x o))⟩ hq
     ·exact absurd ⟨h1,λz hz=>nk (h2 z hz) (small x o)⟩ l
    exfalso;apply l
    classical
    have ac:((s.lists k).map λx=>Tree.mk p.aB 0 (ts.set i x)).Nodup:=by
     rw[TP,U0];refine(TP.1 (Cv (h.sorted k))).imp λa7 e=>a7 ?_;injection e with _ _ e;exact Np a6 e
    have J:∀z∈(s.lists k).map (λx=>Tree.mk p.aB 0 (ts.set i x)),z∈s.lists v:=λz hz=>by
     obtain⟨x,o,rfl⟩:=x6.1 hz;exact inl x o
    have a8:=qL _ _ ac J;have b2:=h.len v;rw[tj] at a8;refine⟨by omega,λz hz=>?_⟩;have:=IZ _ _ ac J (by rw[tj];omega) z hz;obtain⟨x,o,rfl⟩:=x6.1 this;exact small x o
theorem Inv.behind{f:Fo}(j:f.Good){most:Nat}{s:pS}{done:List aT}(h:Inv f most s done [] [])(l:oB f s){v:Nat}{T:Tree}(hT:NT f v T):Ah s most v T:=by
 cases hT with| leaf g i=>{exact .inl (by rw[h.lR v _ g i];exact D2 ..)}| node g i o p=>{exact h.MX j l _ _ _ _ g i o p (TD _)}
def j1(L:Nat->List Tree)(v:Nat)(T:Tree):Nat->List Tree:=λx=>if x=v then L v++[T] else L x
theorem Jx(L:Nat->List Tree)(v:Nat)(T:Tree):JZ L (j1 L v T):=λx=>by
 unfold j1;by_cases e:x=v;{subst e;exact⟨[T],by rw[n0 rfl]⟩};{exact⟨[],by rw[nw e,Tx]⟩}
theorem kX(L:Nat->List Tree)(v:Nat)(T:Tree):j1 L v T v=L v++[T]:=n0 rfl
theorem qK(L:Nat->List Tree){v x:Nat}(T:Tree)(h:x≠v):j1 L v T x=L x:=nw h
theorem qe{L:Nat->List Tree}{v x:Nat}{T t:Tree}(h:t∈j1 L v T x):t∈L x\/(x=v/\t=T):=by
 unfold j1 at h;split at h;{rename_i e;subst e;rcases D1.1 h with h | h;{exact .inl h};{exact .inr ⟨rfl,ti.1 h⟩}};{exact .inl h}
theorem Inv.perm{f:Fo}{most:Nat}{s:pS}{q:List (aT×Tree)}{done j ex:List aT}(h:Inv f most s done j ex)(hp:s.q.Perm q):Inv f most { s with q:=q } done j ex where
 ok:=h.ok
 snd:=h.snd
 oQ:=h.oQ
 vH:=h.vH
 GR:=h.GR
 MP:=h.MP
 I3:=(hp.map _).nodup_iff.1 h.I3
 Gy:=h.Gy
 dq:=λc i=>⟨λg=>(h.dq c i).1 ((hp.map _).mem_iff.2 g),(h.dq c i).2⟩
 pq:=λc i=>⟨λg=>(h.pq c i).1 ((hp.map _).mem_iff.2 g),(h.pq c i).2⟩
 qw:=λc i=>h.qw c ((hp.map _).mem_iff.2 i)
 yH:=λx g=>h.yH x (hp.mem_iff.2 g)
 qZ:=h.qZ
 cover:=λc i=>(h.cover c i).imp id λg=>g.imp id λg=>g.imp (λg=>(hp.map _).mem_iff.1 g) id
 next:=h.next
 lR:=h.lR
 from_:=h.from_
 len:=h.len
 sorted:=h.sorted
 ord:=λv l x g y o=>h.ord v l x g y (hp.mem_iff.2 o)
 valid:=h.valid
 full:=h.full
 small:=h.small
theorem Inv.drop{f:Fo}{most:Nat}{s:pS}{q:List (aT×Tree)}{done:List aT}{c:aT}{T:Tree}(h:Inv f most { s with q:=(c,T)::q } done [] [])(g:(s.lists c.node).length=most):Inv f most { s with q:=q } (c::done) [] []:=by
 have p:=h.yH (c,T) me;obtain⟨i,j⟩:=TJ.1 (show (c::q.map (·.1)).Nodup from h.I3);have l:c∉done:=λhd=>(h.dq c hd).1 me;exact
 {ok:=h.ok
  snd:=h.snd
  oQ:=λd hd=>by
   rcases PJ.1 hd with rfl | hd
   ·exact p.1
   ·exact h.oQ d hd
  vH:=h.vH
  GR:=TJ.2 ⟨l,h.GR⟩
  MP:=h.MP
  I3:=j
  Gy:=h.Gy
  dq:=λd hd=>by
   rcases PJ.1 hd with rfl | hd
   ·exact⟨i,by simp,h.qw d me⟩
   ·exact⟨λhx=>(h.dq d hd).1 (mb _ hx),(h.dq d hd).2⟩
  pq:=λd hd=>by cases hd
  qw:=λd hd=>h.qw d (mb _ hd)
  yH:=λx hx=>h.yH x (mb _ hx)
  qZ:=h.qZ
  cover:=λd hd=>by
   rcases h.cover d hd with hx | hx | hx | hx
   ·exact .inl (mb _ hx)
   ·cases hx
   ·rcases PJ.1 (show d∈c::q.map (·.1) from hx) with rfl | hx
    ·exact .inl me
    ·exact .inr (.inr (.inl hx))
   ·exact .inr (.inr (.inr hx))
  next:=λd hd=>by
   rcases PJ.1 hd with rfl | hd
   ·exact .inr (.inl g)
   ·exact h.next d hd
  lR:=h.lR
  from_:=λv o T hT=>by
   obtain⟨d,h1,r⟩:=h.from_ v o T hT;exact⟨d,mb _ h1,r⟩
  len:=h.len
  sorted:=h.sorted
  ord:=λv o x hx y t=>h.ord v o x hx y (mb _ t)
  valid:=h.valid
  full:=h.full
  small:=h.small }
def tA(s:pS)(c:aT)(T:Tree)(q:List (aT×Tree)):pS:=
 ⟨j1 s.lists c.node T,s.seen,λw=>if w=(c.node,(s.lists c.node).length) then [] else s.waits w,q⟩
theorem Kp{L g:Nat->List Tree}{ks rs:List Nat}{k r:Nat}{ts:List Tree}{t:Tree}(hm:mW L ks rs=some (k,r))(hp:pick g ks rs=some ts)(o:(g k)[r]?=some t):t∈ts:=by
 obtain⟨i,h1,p,_⟩:=kT hm;obtain⟨I,J,j,l,C⟩:=(cU hp).2 i k h1;rw[p] at j;cases j;rw[o] at l;cases l;exact gM C
structure Re(f:Fo)(most:Nat)(s:pS)(done:List aT)(c:aT)(T:Tree)(q:List (aT×Tree)):Prop where
 inv:Inv f most (tA s c T q) (c::done) (s.waits (c.node,(s.lists c.node).length)) [c]
 top:∀v,f.leaf v=none->∀x∈(tA s c T q).lists v,Ek x T
 wait:∀d∈s.waits (c.node,(s.lists c.node).length),∀U,cY f (tA s c T q).lists d=some U->rL T U
 inc:∀p,eP f c=some p->∀i,i<p.kids.length->mm f most (c.inc i)/\∀U,cY f (tA s c T q).lists (c.inc i)=some U->rL T U
 SS:T∈(tA s c T q).lists c.node/\cY f (tA s c T q).lists c=some T
theorem Inv.take{f:Fo}(hf:f.Good){most:Nat}{s:pS}{q:List (aT×Tree)}{done:List aT}{c:aT}{T:Tree}(h:Inv f most { s with q:=(c,T)::q } done [] [])(hb:oB f s)(al:∀y∈q,Ek T y.2)(hn:(s.lists c.node).length<most)(bs:T.pre.length<=5000):Re f most s done c T q:=by
 obtain⟨af,R⟩:=h.yH (c,T) me;have af:c∈s.seen:=af;have R:cY f s.lists c=some T:=R;have g:=h.ok c af;obtain⟨bt,bv⟩:=TJ.1 (show (c::q.map (·.1)).Nodup from h.I3);have a9:c∉done:=λhd=>(h.dq c hd).1 me;have hg:=Jx s.lists c.node T;have J:∀v,∀t∈s.lists v,NT f v t:=h.valid;have C:∀v,(s.lists v).Pairwise rL:=h.sorted;have hT:NT f c.node T:=GY J g R;have an:∀v,f.leaf v=none->∀x∈s.lists v,Ek x T:=λv hv x hx=>h.ord v hv x hx (c,T) me;have ac:∀x∈s.lists c.node,rL x T:=λx hx=>by
  rcases an c.node g.nl x hx with h1 | h1
  ·exact h1
  ·exfalso;have e:=hf.dec c.node x T (J _ x hx) hT h1;subst e;obtain⟨d,h2,h3,h4⟩:=h.from_ c.node g.nl x hx;have:=KZ hf J C (h.ok d (h.oQ d h2)) g h3 h4 R;subst this;exact a9 h2
 have cf:T∉s.lists c.node:=λhx=>rN _ (ac T hx);have ar:∀v,∀t∈j1 s.lists c.node T v,NT f v t:=λv t ht=>by
  rcases qe ht with ht | ⟨rfl,rfl⟩
  ·exact J v t ht
  ·exact hT
 have ao:∀v,f.leaf v=none->∀x∈j1 s.lists c.node T v,Ek x T:=λv hv x hx=>by
  rcases qe hx with hx | ⟨_,rfl⟩
  ·exact an v hv x hx
  ·exact gp _
 have P:∀v,(j1 s.lists c.node T v).Pairwise rL:=λv=>by
  unfold j1;split
  ·rw[List.pairwise_append];refine⟨C _,by simp,λa ha b hb=>?_⟩;rw[ti.1 hb];exact ac a ha
  ·exact C v
 have ax:(j1 s.lists c.node T c.node)[(s.lists c.node).length]?=some T:=by
  rw[kX,OF (mc _),Ua];rfl
 have ay:oB f { s with q:=(c,T)::q }:=hb;have ae:=jO hg R;have o:∀w,∀d∈(if w=(c.node,(s.lists c.node).length) then [] else s.waits w),d∈s.waits w:=λw d hd=>by
  split at hd
  ·cases hd
  ·exact hd
 refine⟨?_,ao,λd hd U I=>?_,λp hp i hi=>?_,?_,ae⟩
 ·exact
  {ok:=h.ok
   snd:=h.snd
   oQ:=λd hd=>by
    rcases PJ.1 hd with rfl | hd
    ·exact af
    ·exact h.oQ d hd
   vH:=λd hd=>(h.qZ _ d hd).1
   GR:=TJ.2 ⟨a9,h.GR⟩
   MP:=h.Gy _
   I3:=bv
   Gy:=λw=>by
    show (if w=(c.node,(s.lists c.node).length) then [] else s.waits w).Nodup;split
    ·exact UF
    ·exact h.Gy w
   dq:=λd hd=>by
    rcases PJ.1 hd with rfl | hd
    ·exact⟨bt,h.qw d me _,λw hw=>h.qw d me w (o w d hw)⟩
    ·exact⟨λhx=>(h.dq d hd).1 (mb _ hx),(h.dq d hd).2.2 _,λw hw=>(h.dq d hd).2.2 w (o w d hw)⟩
   pq:=λd hd=>⟨λhx=>h.qw d (mb _ hx) _ hd,λw hw=>by
    have h1:=o w d hw;obtain⟨_,p,hp,hm⟩:=h.qZ w d h1;obtain⟨_,p',ba,bx⟩:=h.qZ _ d hd;rw[hp] at ba;cases ba;have e:w=(c.node,(s.lists c.node).length):=aE (hm.symm.trans bx);have hw:d∈(if w=(c.node,(s.lists c.node).length) then [] else s.waits w):=hw;rw[n0 e] at hw;cases hw⟩
   qw:=λd hd w hw=>h.qw d (mb _ hd) w (o w d hw)
   yH:=λx hx=>⟨(h.yH x (mb _ hx)).1,jO hg (h.yH x (mb _ hx)).2⟩
   qZ:=λw d hd=>by
    have h1:=o w d hd;have hd:d∈(if w=(c.node,(s.lists c.node).length) then [] else s.waits w):=hd;have b0:w≠(c.node,(s.lists c.node).length):=λe=>by rw[n0 e] at hd;cases hd
    obtain⟨h2,p,hp,hm⟩:=h.qZ w d h1;refine⟨h2,p,hp,CG hg hm ?_⟩;obtain⟨i,_,_,h3⟩:=kT (k:=w.1) (r:=w.2) hm;have h3:(s.lists w.1)[w.2]?=none:=h3;by_cases e:w.1=c.node
    ·rw[e] at h3;rw[e,kX];rw[UG] at h3 ⊢;rw[sj,Tw];have:w.2≠(s.lists c.node).length:=λe2=>b0 (Prod.ext e e2);omega
    ·rw[qK _ _ e];exact h3
   cover:=λd hd=>by
    rcases h.cover d hd with hx | hx | hx | ⟨w,hx⟩
    ·exact .inl (mb _ hx)
    ·cases hx
    ·rcases PJ.1 (show d∈c::q.map (·.1) from hx) with rfl | hx
     ·exact .inl me
     ·exact .inr (.inr (.inl hx))
    ·by_cases e:w=(c.node,(s.lists c.node).length)
     ·subst e;exact .inr (.inl hx)
     ·exact .inr (.inr (.inr ⟨w,by show d∈(if w=(c.node,(s.lists c.node).length) then [] else s.waits w);rw[nw e];exact hx⟩))
   next:=λd hd=>by
    rcases PJ.1 hd with rfl | hd
    ·exact .inl me
    ·rcases h.next d hd with hx | hx | ⟨⟨U,h1,h2⟩,h3⟩
     ·cases hx
     ·have hx:(s.lists d.node).length=most:=hx;refine .inr (.inl ?_);show (j1 s.lists c.node T d.node).length=most;rw[qK _ _ (λe=>by rw[e] at hx;omega)];exact hx
     ·refine .inr (.inr ⟨⟨U,?_,jO hg h2⟩,h3⟩);obtain⟨x,hx⟩:=hg d.node;show U∈j1 s.lists c.node T d.node;rw[hx];exact Te _ h1
   lR:=λv t hv ht=>by
    show j1 s.lists c.node T v=_;rw[qK _ _ (λe=>by rw[e,g.nl] at ht;cases ht)];exact h.lR v t hv ht
   from_:=λv hv U I=>by
    rcases qe I with I | ⟨rfl,rfl⟩
    ·obtain⟨d,h1,h2,h3⟩:=h.from_ v hv U I;exact⟨d,mb _ h1,h2,jO hg h3⟩
    ·exact⟨c,D2 ..,rfl,ae⟩
   len:=λv=>by
    show (j1 s.lists c.node T v).length<=most;unfold j1;split
    ·rw[sj,Tw];omega
    ·exact h.len v
   sorted:=P
   ord:=λv hv x hx y hy=>k5 (ao v hv x hx) (al y hy)
   valid:=ar
   full:=λv hv hl U I l x hx=>by
    by_cases e:v=c.node
    ·subst e;have l:U∉j1 s.lists c.node T c.node:=l;rw[kX] at l;have b4:U∉s.lists c.node:=λh1=>l (Te _ h1);have b5:U≠T:=λh1=>l (by rw[h1];simp);have bb:rL T U:=by
      have key:Ek T U:=by
       rcases h.behind hf ay I with h1 | ⟨y,hy,h1⟩ | ⟨h1,_⟩
       ·exact absurd h1 b4
       ·rcases PJ.1 hy with rfl | hy
        ·exact h1
        ·exact k5 (al y hy) h1
       ·have h1:(s.lists c.node).length=most:=h1;omega
      rcases key with h1 | h1
      ·exact h1
      ·exact absurd (hf.dec c.node T U hT I h1).symm b5
     rcases qe hx with hx | ⟨_,rfl⟩
     ·exact nk (ac x hx) bb
     ·exact bb
    ·have hl:(j1 s.lists c.node T v).length=most:=hl;have l:U∉j1 s.lists c.node T v:=l;have hx:x∈j1 s.lists c.node T v:=hx;rw[qK _ _ e] at hl l hx;exact h.full v hv hl U I l x hx
   small:=λv U I=>by
    rcases qe I with I | ⟨rfl,rfl⟩
    ·exact h.small v U I
    ·exact bs }
 ·obtain⟨_,p,hp,hm⟩:=h.qZ _ d hd;obtain⟨p',ts,e1,e2,rfl⟩:=dE I;rw[hp] at e1;cases e1;exact Ly (Kp hm e2 ax)
 ·obtain⟨p',ts,e1,e2,e3⟩:=dE ae;rw[hp] at e1;cases e1;obtain⟨k,hk⟩:∃k,p.kids[i]?=some k:=⟨_,gE hi⟩;obtain⟨r,t,a1,a2,a3⟩:=(cU e2).2 i k hk;have a0:=c.JM a1;have ag:=c.K4 i;have a4:eP f (c.inc i)=some p:=by unfold eP at hp ⊢;rw[ag.1,ag.2];exact hp
  have a5:i<c.cl.length:=(gS a1).1;refine⟨⟨by rw[ag.1];exact g.node,by rw[ag.1];exact g.nl,⟨p,a4⟩,λx hx=>?_,λp2 bd j x hj hx=>?_⟩,λU I=>?_⟩
  ·rw[a0] at hx;rcases Uq hx with hx | rfl
   ·exact g.Nt x hx
   ·obtain⟨p3,cp,g1,g2,_⟩:=dE R;rw[hp] at g1;cases g1;obtain⟨r3,t3,b1,b2,_⟩:=(cU g2).2 i k hk;rw[a1] at b1;cases b1;have h1:=(gS b2).1;have h2:(s.lists k).length<=most:=h.len k;omega
  ·rw[a4] at bd;cases bd;rw[a0,yf zo] at hx;exact g.zero p hp j x hj hx
  ·obtain⟨p3,us,g1,g2,rfl⟩:=dE I;rw[a4] at g1;cases g1;rw[a0] at g2;have h1:=cU g2;have h2:=cU e2;obtain⟨r',u,b1,b2,b3⟩:=h1.2 i k hk;rw[xk a5] at b1;obtain rfl:=aE b1;have e:us=ts.set i u:=by
    refine Tn λj=>?_;by_cases a6:i=j
    ·subst a6;rw[b3,xk (by rw[h2.1];exact hi)]
    ·rw[yf a6];by_cases hj:j<p.kids.length
     ·obtain⟨k2,bi⟩:∃k,p.kids[j]?=some k:=⟨_,gE hj⟩;obtain⟨r1,t1,c1,c2,c3⟩:=h1.2 j k2 bi;obtain⟨r2,t2,d1,d2,d3⟩:=h2.2 j k2 bi;rw[yf a6,d1] at c1;cases c1;have c2:(j1 s.lists c.node T k2)[r1]?=some t1:=c2;rw[d2] at c2;cases c2;rw[c3,d3]
     ·rw[zE (by rw[h1.1];omega),zE (by rw[h2.1];omega)]
   rw[e3,e];refine Gb _ (Ch a3 ?_);have hs:=P k;obtain⟨q1,rfl⟩:=gS a2;obtain⟨q2,rfl⟩:=gS b2;exact TS.1 hs _ _ q1 q2 (TD _)
 ·show T∈j1 s.lists c.node T c.node;rw[kX];simp
theorem Inv.close{f:Fo}{most:Nat}{s:pS}{done:List aT}{c:aT}{T:Tree}(h:Inv f most s (c::done) [] [c])(h1:T∈s.lists c.node)(g:cY f s.lists c=some T)(j:∀p,eP f c=some p->∀i,i<p.kids.length->c.inc i∈s.seen):Inv f most s (c::done) [] []:=
 {h with
  next:=λd l=>by{rcases h.next d l with hx | hx;{rw[ti.1 hx];exact .inr (.inr ⟨⟨T,h1,g⟩,j⟩)};{exact .inr hx }}}
structure Da(f:Fo)(v most:Nat)(l:List Tree):Prop where
 sorted:l.Pairwise rL
 valid:∀T∈l,NT f v T
 len:l.length<=most
 small:∀T∈l,T.pre.length<=5000
 rest:∀T,NT f v T->T∉l->(∀x∈l,rL x T)/\(l.length=most\/5000<T.pre.length)
theorem Inv.Dq{f:Fo}(j:f.Good){most:Nat}{s:pS}{done:List aT}(h:Inv f most s done [] [])(l:oB f s){v:Nat}(o:f.leaf v=none)(g:(s.lists v).length=most\/∀y∈s.q,5000<y.2.pre.length):Da f v most (s.lists v):=by
 (refine⟨h.sorted v,h.valid v,h.len v,h.small v,λT hT i=>?_⟩;rcases g with he | he);{exact⟨h.full v o he T hT i,.inl he⟩};{rcases h.behind j l hT with h1 | ⟨y,r,h1⟩ | ⟨h1,t⟩;{exact absurd h1 i};{have I:=he y r;have J:=x8 h1;exact⟨λx C=>.inl (by have:=h.small v x C;omega),.inr zo⟩};{exact⟨t,.inl h1⟩}}
def jU:Ty Nat where
 size:=1
 rel:=λ_ l p=>l=[.pointer (some ⟨p,0,none⟩)]
 len:=λ_ _ _ h=>by rw[h];rfl
 one:=λ_ _ _ h=>by rw[h];rfl
 mono:=λ_ _ _ _ _ h=>h
mutual
inductive Sh(F:aA):Nat->Tree->Prop
 | mk {p:Nat} {r:Int} {t:Nat} {ks:List Tree} {a:Option Addr} {n c:Nat} {ps:List Nat}:F p=some (.cells false [.int .i64 r,.int .i64 t,.int .i64 ((Tree.mk r t ks).pre.length:Nat),.slice a n c])->bk jU F a n c ps->lT F ps ks->Sh F p (.mk r t ks)
inductive lT(F:aA):List Nat->List Tree->Prop
 | nil:lT F [] []
 | cons {p:Nat} {t:Tree} {ps:List Nat} {ts:List Tree}:Sh F p t->lT F ps ts->lT F (p::ps) (t::ts)
end
mutual
theorem Sh.mono{F G:aA}(g:aA.le F G):∀{t:Tree} {p:Nat},Sh F p t->Sh G p t
 | .mk _ _ ks,_,.mk h1 i j=>.mk (g _ _ h1) (i.mono g) (lT.mono g j)
theorem lT.mono{F G:aA}(g:aA.le F G):∀{ts:List Tree} {ps:List Nat},lT F ps ts->lT G ps ts
 | [],_,.nil=>.nil
 | _::_,_,.cons h1 i=>.cons (Sh.mono g h1) (lT.mono g i)
end
theorem Ed{F:aA}{a:Option Addr}{n c:Nat}{ps g:List Nat}(h:bk jU F a n c ps)(o:bk jU F a n c g):ps=g:=by
 refine V4 (by rw[<-h.len,<-o.len]) λi hi r=>?_;obtain⟨b,off,ro,cs,l,t,C,I,j⟩:=h.el i _ (gE hi);obtain⟨b',p,J,cs',P,g1,g2,g3,g4⟩:=o.el i _ (gE r);rw[t] at g1;cases g1;rw[C] at g2;cases g2;rw[I] at g3;cases g3;have j:l=_:=j;rw[j] at g4;have g4:[Value.pointer (some ⟨ps[i],0,none⟩)]=[Value.pointer (some ⟨g[i],0,none⟩)]:=g4;simpa using g4
mutual
theorem Sh.uniq{F:aA}:∀{t u:Tree} {p:Nat},Sh F p t->Sh F p u->t=u
 | .mk _ _ ks,.mk _ _ l,_,.mk h1 g i,.mk g1 g2 g3=>by{rw[h1] at g1;simp only[sw,aJ.cells.injEq,Vd,T1,Value.int.injEq,Value.slice.injEq,Vs] at g1;obtain⟨rfl,j,_,rfl,rfl,rfl⟩:=g1;obtain rfl:=Int.ofNat_inj.1 j;obtain rfl:=Ed g g2;rw[lT.uniq i g3]}
theorem lT.uniq{F:aA}:∀{ts us:List Tree} {ps:List Nat},lT F ps ts->lT F ps us->ts=us
 | [],[],_,_,_=>rfl
 | [],_::_,_,.nil,h=>by cases h
 | _::_,[],_,.cons _ _,h=>by cases h
 | _::_,_::_,_,.cons h1 g,.cons g1 g2=>by rw[Sh.uniq h1 g1,lT.uniq g g2]
end
theorem lT.len{F:aA}:∀{ps:List Nat} {ts:List Tree},lT F ps ts->ts.length=ps.length
 | [],[],_=>rfl
 | _::_,_::_,.cons _ h=>by simp[lT.len h]
theorem lT.at_{F:aA}:∀{ps:List Nat} {ts:List Tree},lT F ps ts->∀{i p:Nat} {t:Tree},ps[i]?=some p->ts[i]?=some t->Sh F p t
 | _::_,_::_,.cons h l,0,p,t,g,j=>by simp at g j;subst g j;exact h
 | _::_,_::_,.cons h l,i+1,p,t,g,j=>lT.at_ l (by simpa using g) (by simpa using j)
 | [],[],_,i,p,t,g,_=>by simp at g
theorem lT.app{F:aA}:∀{ps g:List Nat} {ts us:List Tree},lT F ps ts->lT F g us->lT F (ps++g) (ts++us)
 | [],_,[],_,_,h=>h
 | _::_,_,_::_,_,.cons h h1,i=>.cons h (lT.app h1 i)
theorem uR:∀(a b:List Tree),bK (a++b)=bK a++bK b
 | [],_=>rfl
 | t::a,b=>by{show t.pre++bK (a++b)=(t.pre++bK a)++bK b;rw[uR a b,By]}
theorem DU(t:Tree):1<=t.pre.length:=by
 cases t with| mk r t ks=>{show 1<=(r::bK ks).length;simp}
theorem qU:∀(ts:List Tree),ts.length<=(bK ts).length
 | []=>mc _
 | t::ts=>by{have:=qU ts;have g:=DU t;show _<=(t.pre++bK ts).length;simp only[IT,sj];omega}
theorem nJ:∀(a:List Int) {x y:List Int},lexLt (a++x) (a++y)↔lexLt x y
 | [],_,_=>Iff.rfl
 | b::a,x,y=>by{show (b<b\/(b=b/\lexLt (a++x) (a++y)))↔_;rw[nJ a];constructor;{rintro(h | h);{omega};{exact h.2}};{exact λh=>.inr ⟨rfl,h⟩}}
structure Sp where
 i:Nat
 v:Int
 a:Option Addr
 n:Nat
 c:Nat
 B:List (Nat×aJ)
 ps:List Nat
structure RR where
 xa:Option Addr
 xn:Nat
 xc:Nat
 XB:List (Nat×aJ)
 xs:List Nat
 X:List Tree
 ya:Option Addr
 yn:Nat
 yc:Nat
 YB:List (Nat×aJ)
 ys:List Nat
 Y:List Tree
theorem lT.rev{F:aA}:∀{ps:List Nat} {ts:List Tree},lT F ps ts->lT F ps.reverse ts.reverse
 | [],[],_=>.nil
 | _::_,_::_,.cons h g=>by{rw[Vv,Vv];exact lT.app (lT.rev g) (.cons h .nil)}
theorem Kc(t:Tree)(ts:List Tree):bK (t::ts)=t.pre++bK ts:=rfl
theorem vx{F:aA}{ps:List Nat}{ts:List Tree}(h:lT F ps ts)(C:0<ps.length):∃p t g i,ps=g++[p]/\ts=i++[t]/\lT F g i/\Sh F p t/\ps[ps.length-1]?=some p/\ps.take (ps.length-1)=g:=by
 have j:=h.rev;cases hp:ps.reverse with| nil=>{rw[List.reverse_eq_nil_iff] at hp;subst hp;simp at C}| cons p r=>{cases l:ts.reverse with| nil=>{rw[hp,l] at j;cases j}| cons t us=>{rw[hp,l] at j;cases j with| cons I J=>{have o:ps=r.reverse++[p]:=by{rw[<-VF ps,hp,Vv]};have P:ts=us.reverse++[t]:=by{rw[<-VF ts,l,Vv]};refine⟨p,t,r.reverse,us.reverse,o,P,J.rev,I,?_,?_⟩;{rw[o];simp};{rw[o];simp}}}}
theorem A9(F:aA){p q:Nat}{a b:Tree}(ha:Sh F p a)(hb:Sh F q b)(cw:a.pre.length<=100000)(fk:b.pre.length<=100000) :
  Abs.Spec CC 216 [.pointer (some ⟨p,0,none⟩),.pointer (some ⟨q,0,none⟩)] F [] λ_ v o=>o=[]/\∃z,v=.int .i64 z/\(z<0↔rL a b):=by
 cases ha with
 | @mk _ ar at_ av aa an ac fl cx c0 c1=>
 cases hb with
 | @mk _ br bt ax ba bn bc fo ay a0 c2=>
 refine Abs.Spec.fn (n:=124) Tryz.func216 rfl rfl λown=>?_;refine aq ?_;refine AW.cond Z (λhc=>?_) (λhc=>?_)
 ·have a8:(Tree.mk ar at_ av).pre.length≠(Tree.mk br bt ax).pre.length:=λe=>by rw[e] at hc;simp at hc
  refine aq ?_;refine WT.bj Tryz.func111 Z Z Z Z Z Z (dD _ _ _) (λv hv=>?_);subst hv;refine aq ?_;refine AW.ret ⟨_,[],⟨_,_,rfl,rfl,rfl⟩,bF,rfl,_,rfl,?_⟩;unfold bm rL xF;constructor
  ·intro h;left;split at h
   ·omega
   ·split at h<;>omega
  ·rintro(h | h)
   ·rw[n0 zo];decide
   ·exact absurd h.1 a8
 ·have heq:(Tree.mk ar at_ av).pre.length=(Tree.mk br bt ax).pre.length:=by simp at hc;omega
  have hA:Sh F p (.mk ar at_ av):=.mk cx c0 c1;have hB:Sh F q (.mk br bt ax):=.mk ay a0 c2;generalize Tree.mk ar at_ av=a at *;generalize Tree.mk br bt ax=b at *;refine aq ?_;refine WT.aR hT Z Z Z Z Z Z Z Z Z Z Z Z Z Z (λi30 et=>?_);refine aq ?_;refine WT.aR hT Z Z Z Z Z Z Z Z Z Z Z Z Z Z (λi32 ev=>?_);refine aq ?_;refine AW.block ?_;refine AW.ek (S:=RR) (λs=>[(5,.slice s.xa s.xn s.xc),(6,.slice s.ya s.yn s.yc)]) (λs=>s.YB::s.XB::own)
   (λs G=>GB jU G s.xa s.xn s.xc s.XB s.xs/\lT G s.xs s.X/\GB jU G s.ya s.yn s.yc s.YB s.ys/\lT G s.ys s.Y/\(bK s.X.reverse).length=(bK s.Y.reverse).length/\(lexLt a.pre b.pre↔lexLt (bK s.X.reverse) (bK s.Y.reverse))/\(bK s.X.reverse).length<=100000)
   (λs=>(bK s.X.reverse).length) ⟨_,_,_,_,[p],[a],_,_,_,_,[q],[b]⟩
   sM oR ⟨⟨rfl,.inr ⟨_,_,[],rfl,rfl,rfl,aG.single (R:=jU) rfl,by decide⟩⟩,.cons hA .nil,⟨rfl,.inr ⟨_,_,[],rfl,rfl,rfl,aG.single (R:=jU) rfl,by decide⟩⟩,.cons hB .nil,?_,?_,?_⟩ ?_
  ·simpa [bK] using heq
  ·simp[bK]
  ·simpa [bK] using cw
  intro s F1 ft hP;obtain⟨hx,hX,hy,hY,hlen,t,ag⟩:=hP;have b4:=hx.len;have b5:=hy.len;refine aq ?_;have f1:=hX.len;have f2:=hY.len;have c5:=qU s.X.reverse;have c6:=qU s.Y.reverse;rw[List.length_reverse] at c5 c6;have full:0<s.xn->0<s.yn:=λh=>by
   obtain⟨p1,t1,af,g,e1,e2,_,_,_,_⟩:=vx hX zo;rw[e2] at hlen;simp only[U2,Vv,List.reverse_nil,Vb,TI,Kc,sj] at hlen;have:=DU t1;rcases Ts s.yn with h0 | h0
   ·exfalso;have:s.Y=[]:=BY zo;have:(bK s.Y.reverse).length=0:=by rw[this];rfl
    omega
   ·exact h0
  refine WT.split 36 Z (λbb=>?_) (λbb=>?_);rotate_left
  ·have c7:s.X=[]:=BY (by simp at bb;omega);refine aq ?_;refine AW.cond Z (λh=>(by cases h)) (λ_=>?_);refine AW.exit ?_;refine aq ?_;refine AW.ret ⟨_,[],⟨_,_,rfl,rfl,rfl⟩,bF,rfl,_,rfl,?_⟩;have b8:bK s.X.reverse=[]:=by rw[c7];rfl
   have c8:bK s.Y.reverse=[]:=BY (by rw[<-hlen,b8];rfl);rw[b8,c8] at t;constructor
   ·intro h;omega
   ·rintro(h | h)
    ·omega
    ·exact(t.1 h.2).elim
  ·have c9:0<s.xn:=by simpa using bb
   have f3:=full c9;obtain⟨p1,t1,af,g,dd,df,b9,a1,dk,dq⟩:=vx hX zo;obtain⟨q1,u1,al,P,ds,dy,ca,a2,d0,d1⟩:=vx hY zo;refine ak ?_;refine AW.cond Z (λ_=>?_) (λh=>?_);rotate_left
   ·simp at h;omega
   refine ak ?_;refine AW.block ?_;refine ak ?_;refine WT.rp hT hx Z Z Z Z Z Z Z Z Z zo (λb1 ay=>?_);refine WT.Ft (x:=p1) hT 1 hx ay (by rw[b4];exact dk) Z Z Z Z Z Z (λz hz=>hz) Z Z Z (λv hv=>?_);obtain rfl:v=_:=(UI.1 hv);refine ak ?_;refine WT.rp hT hy Z Z Z Z Z Z Z Z Z zo (λb2 a0=>?_);refine WT.Ft (x:=q1) hT 0 hy a0 (by rw[b5];exact d0) Z Z Z Z Z Z (λz hz=>hz) Z Z Z (λv hv=>?_);obtain rfl:v=_:=(UI.1 hv);refine ak ?_;refine WT.vy hT hx Z Z Z Z Z Z Z Z Z (show s.xn-1<=s.xn by omega) ?_;refine ak ?_
   refine WT.vy hT hy Z Z Z Z Z Z Z Z Z (show s.yn-1<=s.yn by omega) ?_;refine ak ?_;have a4:=(hx.take (show s.xn-1<=s.xn by omega));have a5:=(hy.take (show s.yn-1<=s.yn by omega));rw[show s.xs.take (s.xn-1)=af by rw[b4];exact dq] at a4;rw[show s.ys.take (s.yn-1)=al by rw[b5];exact d1] at a5;have fx:∃cs,F1 p1=some (.cells false cs):=by cases a1 with | mk h _ _=>exact⟨_,h⟩
   have fy:∃cs,F1 q1=some (.cells false cs):=by cases a2 with | mk h _ _=>exact⟨_,h⟩
   obtain⟨f5,fx⟩:=fx;obtain⟨f6,fy⟩:=fy;have l:(bK s.X.reverse)=t1.pre++bK g.reverse:=by rw[df,U2];rfl
   have bd:(bK s.Y.reverse)=u1.pre++bK P.reverse:=by rw[dy,U2];rfl
   have a7:=ag;have d3:=hlen;rw[l,bd] at hlen t;rw[l] at ag;refine WT.ptrEq hT Z Z Z Z Z Z fx fy Z Z Z ?_;refine ak ?_;refine AW.cond Z (λhe=>?_) (λhe=>?_)
   ·obtain rfl:p1=q1:=by simpa using he
    obtain rfl:=Sh.uniq a1 a2;refine AW.exit ?_;refine⟨⟨_,_,_,_,af,g,_,_,_,_,al,P⟩,?_,sM,cF,a4,b9,a5,ca,?_,?_,?_⟩
    ·show (bK g.reverse).length<_;have:=DU t1;rw[l,sj];omega
    ·simp only[sj] at hlen;show (bK g.reverse).length=(bK P.reverse).length;omega
    ·rw[t,nJ]
    ·simp only[sj] at ag;show (bK g.reverse).length<=_;omega
   have f7:=a1;have f8:=a2;cases a1 with
   | @mk _ tr tt r ta tn tc bf g1 g2 g3=>
   cases a2 with
   | @mk _ ur ut C ua un uc bi k1 k2 k3=>
   refine ak ?_;refine AW.cond Z (λhc=>?_) (λhc=>?_)
   ·have a8:tr≠ur:=by simpa using hc
    refine ak ?_;refine WT.bj Tryz.func111 Z Z Z Z Z Z (dD _ _ _) (λv hv=>?_);subst hv;refine ak ?_;refine AW.ret ⟨_,[],⟨_,_,rfl,rfl,rfl⟩,bF,rfl,_,rfl,?_⟩;have e:lexLt a.pre b.pre↔tr<ur:=by
     rw[t];show (tr<ur\/(tr=ur/\_))↔_;constructor
     ·rintro(h | h)
      ·exact h
      ·exact absurd h.1 a8
     ·exact λh=>.inl h
    unfold bm rL xF;constructor
    ·intro h;right;refine⟨heq,e.2 ?_⟩;split at h
     ·assumption
     ·split at h<;>omega
    ·rintro(h | h)
     ·omega
     ·rw[n0 (e.1 h.2)];decide
   ·obtain rfl:tr=ur:=by simpa using hc
    have f9:=g2.len;have ga:=k2.len;have gl:=g3.len;have kl:=k3.len;have ay:tn<=100000:=by
     have h1:=qU r;have h2:(Tree.mk tr tt r).pre.length=(bK r).length+1:=rfl;rw[sj,h2] at ag;omega
    have a0:un<=100000:=by
     have h1:=qU C;have h2:(Tree.mk tr ut C).pre.length=(bK C).length+1:=rfl;have h3:=hlen;rw[sj,sj,h2] at h3;rw[sj] at ag;omega
    have e7:=a4.len;have e8:=a5.len;have fa:s.xs.length=af.length+1:=by rw[dd];simp
    have fb:s.ys.length=al.length+1:=by rw[ds];simp
    refine aq ?_;refine AW.block ?_;refine AW.ek (S:=Sp) (λz=>[(9,.int .i64 z.v),(5,.slice z.a z.n z.c)]) (λz=>s.YB::z.B::own)
     (λz G=>GB jU G z.a z.n z.c z.B z.ps/\z.i<=tn/\z.ps=af++bf.reverse.take z.i/\z.v=(tn:Int)-1-z.i) (λz=>tn-z.i) ⟨0,_,_,_,_,_,af⟩
     sM oR ⟨a4,If _,by simp,by simp⟩ ?_
    intro z F2 I hQ;obtain⟨hz,bo,U,d6⟩:=hQ;have d7:=hz.len;have d8:z.ps.length<=300000:=by
     rw[U];simp;omega
    have gA:=(I) _ _ g1;have gB:=g2.mono (I);refine aq ?_;refine AW.cond Z (λab=>?_) (λab=>?_)
    ·have ab:z.i<tn:=by simp at ab;omega
     refine aq ?_;refine AW.block ?_;refine aq ?_;refine WT.gn (v':=.int .i64 ((tn-1-z.i:Nat):Int)) 99 Z (by congr 1;omega) ?_;refine WT.bh (j:=tn-1-z.i) hT gB Z Z Z Z Z Z Z Z Z zo (λy bs b7 cf ea eb bv ec ee ad=>?_);obtain rfl:bv=_:=ad;refine aq ?_;refine WT.aR hT Z Z Z Z Z Z Z Z Z Z Z Z Z Z (λi9 eg=>?_);refine WT.lY (ys:=[y]) hT 2 hz Z (λ_=>rfl) Z Z Z Z Z Z Z Z Z Z Z (λh0 s0=>aN hT s0 0 Z Z Z Z) (aG.single (R:=jU) (x:=y) rfl) Z (by decide) fj (λa3 c3 B3 bx=>?_);refine aq ?_
     refine⟨⟨z.i+1,z.v-1,a3,z.n+1,c3,B3,z.ps++[y]⟩,by show tn-(z.i+1)<tn-z.i;omega,sM,cF,bx.gb,by show z.i+1<=tn;omega,?_,by show z.v-1=_-_-((z.i+1:Nat):Int);omega⟩;show z.ps++[y]=_++bf.reverse.take (z.i+1);rw[U,yo,List.getElem?_reverse zo,show bf.length-1-z.i=tn-1-z.i by omega,bs,By];rfl
    ·have bo:z.i=tn:=by simp at ab;omega
     rw[bo,qs (by simp;omega)] at U;have eo:=hz;have ch:=U;have g0:=I _ _ k1;refine AW.exit ?_;refine aq ?_;refine AW.block ?_;refine AW.ek (S:=Sp) (λz=>[(10,.int .i64 z.v),(6,.slice z.a z.n z.c)]) (λzz=>zz.B::z.B::own)
      (λz G=>GB jU G z.a z.n z.c z.B z.ps/\z.i<=un/\z.ps=al++bi.reverse.take z.i/\z.v=(un:Int)-1-z.i) (λz=>un-z.i) ⟨0,_,_,_,_,_,al⟩
      sM oR ⟨(a5.mono I),If _,by simp,by simp⟩ ?_
     intro J F3 ae hQ;obtain⟨hz,bo,U,d6⟩:=hQ;have d7:=hz.len;have d8:J.ps.length<=300000:=by
      rw[U];simp;omega
     have gA:=(I.trans ae) _ _ k1;have gB:=k2.mono (I.trans ae);refine aq ?_;refine AW.cond Z (λab=>?_) (λab=>?_)
     ·have ab:J.i<un:=by simp at ab;omega
      refine aq ?_;refine AW.block ?_;refine aq ?_;refine WT.gn (v':=.int .i64 ((un-1-J.i:Nat):Int)) 119 Z (by congr 1;omega) ?_;refine WT.bh (j:=un-1-J.i) hT gB Z Z Z Z Z Z Z Z Z zo (λy bs b7 cf ea eb bv ec ee ad=>?_);obtain rfl:bv=_:=ad;refine aq ?_;refine WT.aR hT Z Z Z Z Z Z Z Z Z Z Z Z Z Z (λi9 eg=>?_);refine WT.lY (ys:=[y]) hT 1 hz Z (λ_=>rfl) Z Z Z Z Z Z Z Z Z Z Z (λh0 s0=>aN hT s0 0 Z Z Z Z) (aG.single (R:=jU) (x:=y) rfl) Z (by decide) fj (λa3 c3 B3 bx=>?_);refine aq ?_
      refine⟨⟨J.i+1,J.v-1,a3,J.n+1,c3,B3,J.ps++[y]⟩,by show un-(J.i+1)<un-J.i;omega,sM,cF,bx.gb,by show J.i+1<=un;omega,?_,by show J.v-1=_-_-((J.i+1:Nat):Int);omega⟩;show J.ps++[y]=_++bi.reverse.take (J.i+1);rw[U,yo,List.getElem?_reverse zo,show bi.length-1-J.i=un-1-J.i by omega,bs,By];rfl
     ·have cj:J.i=un:=by simp at ab;omega
      rw[cj,qs (by simp;omega)] at U;have es:GB jU F3 z.a z.n z.c z.B z.ps:=eo.mono ae;refine AW.exit ?_;have e1:bK (g++r.reverse).reverse=bK r++bK g.reverse:=by
       rw[U2,VF,uR]
      have e2:bK (P++C.reverse).reverse=bK C++bK P.reverse:=by
       rw[U2,VF,uR]
      have e3:(Tree.mk tr tt r).pre=tr::bK r:=rfl;have e4:(Tree.mk tr ut C).pre=tr::bK C:=rfl;rw[e3,e4] at hlen t;rw[e3] at l;refine⟨⟨_,_,_,z.B,z.ps,g++r.reverse,_,_,_,J.B,J.ps,P++C.reverse⟩,?_,sM,cF,es,?_,hz,?_,?_,?_,?_⟩
      ·show (bK (g++r.reverse).reverse).length<(bK s.X.reverse).length;rw[e1,l];simp
      ·show lT F3 z.ps (g++r.reverse);rw[ch];exact lT.app (b9.mono (I.trans ae)) (g3.mono (I.trans ae)).rev
      ·show lT F3 J.ps (P++C.reverse);rw[U];exact lT.app (ca.mono (I.trans ae)) (k3.mono (I.trans ae)).rev
      ·show (bK (g++r.reverse).reverse).length=(bK (P++C.reverse).reverse).length;rw[e1,e2];simp only[TI,IT,sj] at hlen ⊢;omega
      ·show _↔lexLt (bK (g++r.reverse).reverse) (bK (P++C.reverse).reverse);rw[t,e1,e2];exact nJ [tr]
      ·show (bK (g++r.reverse).reverse).length<=100000;rw[e1];rw[l] at a7;simp only[TI,IT] at a7;omega
def da(Q:List (aT×Tree))(i:Nat):List Int:=match Q[i]? with
 | some x=>x.2.pre
 | none=>[]
def jo(Q:List (aT×Tree))(n:Nat):Prop:=∀i,0<i->i<n->uV (da Q ((i-1) / 2)) (da Q i)
structure Ep(Q:List (aT×Tree))(j:Nat):Prop where
 one:∀k,0<k->k<Q.length->k≠j->uV (da Q ((k-1) / 2)) (da Q k)
 two:∀k,0<k->k<Q.length->(k-1) / 2=j->0<j->uV (da Q ((j-1) / 2)) (da Q k)
structure ph(Q:List (aT×Tree))(j n:Nat):Prop where
 one:∀k,0<k->k<n->(k-1) / 2≠j->uV (da Q ((k-1) / 2)) (da Q k)
 two:∀k,0<k->k<n->(k-1) / 2=j->0<j->uV (da Q ((j-1) / 2)) (da Q k)
theorem cB{Q:List (aT×Tree)}{i:Nat}{x:aT×Tree}(h:Q[i]?=some x):da Q i=x.2.pre:=by
 unfold da;rw[h]
theorem rQ{Q:List (aT×Tree)}{i j:Nat}{x y:aT×Tree}(hi:Q[i]?=some x)(o:Q[j]?=some y)(k:Nat):da ((Q.set i y).set j x) k=if k=j then da Q i else if k=i then da Q j else da Q k:=by
 have h1:=(gS hi).1;have p:=(gS o).1;unfold da;rw[UM,UM];by_cases g:k=j;{subst g;simp[p,hi]};{by_cases l:k=i;{subst l;simp[h1,o,g,Ne.symm g]};{simp[g,l,Ne.symm g,Ne.symm l]}}
theorem ou{α:Type}{Q:List α}{i j:Nat}{x y:α}(hi:Q[i]?=some x)(g:Q[j]?=some y):((Q.set i y).set j x).Perm Q:=by
 obtain⟨h1,rfl⟩:=gS hi;obtain⟨l,rfl⟩:=gS g;exact Go.Sort.perm_set_set Q i j h1 l
theorem Ep.stop{Q:List (aT×Tree)}{j:Nat}(h:Ep Q j)(hj:j=0\/uV (da Q ((j-1) / 2)) (da Q j)):jo Q Q.length:=λi h1 g=>by
 by_cases e:i=j;{subst e;rcases hj with hj | hj;{omega};{exact hj}};{exact h.one i h1 g e}
theorem Ep.step{Q:List (aT×Tree)}{j:Nat}(h:Ep Q j)(R:0<j){x y:aT×Tree}(hi:Q[(j-1) / 2]?=some x)(J:Q[j]?=some y)(o:xF (da Q j) (da Q ((j-1) / 2))):Ep ((Q.set ((j-1) / 2) y).set j x) ((j-1) / 2):=by
 have t:=rQ hi J;have r:(j-1) / 2≠j:=by{omega};refine⟨λk h1 g C=>?_,λk h1 g C U=>?_⟩;{simp only[TX] at g;rw[t,t];by_cases l:k=j;{subst l;rw[nw r,n0 rfl,n0 rfl];exact .inl o};{rw[nw l (c:=k=j),nw C];by_cases i:(k-1) / 2=j;{rw[n0 i];exact h.two k h1 g i R};{rw[nw i];by_cases I:(k-1) / 2=(j-1) / 2;{rw[n0 I];have:=h.one k h1 g l;rw[I] at this;exact .inl (NA o this)};{rw[nw I];exact h.one k h1 g l}}}};{simp only[TX] at g;rw[t,t];have e0:((j-1) / 2-1) / 2≠j:=by{omega};have l:((j-1) / 2-1) / 2≠(j-1) / 2:=by{omega};rw[nw e0,nw l];have ab:=(gS J).1;have P:=h.one ((j-1) / 2) U zo r;by_cases i:k=j;{rw[n0 i];exact P};{rw[nw i,nw zo];have:=h.one k h1 g i;rw[C] at this;exact k5 P this}}
theorem ph.stop{Q:List (aT×Tree)}{j n:Nat}(h:ph Q j n)(l:∀k,0<k->k<n->(k-1) / 2=j->uV (da Q j) (da Q k)):jo Q n:=λi h1 g=>by
 by_cases e:(i-1) / 2=j;{rw[e];exact l i h1 g e};{exact h.one i h1 g e}
theorem ph.step{Q:List (aT×Tree)}{i j n:Nat}(h:ph Q i n)(hn:n<=Q.length)(U:0<j)(C:j<n)(g:(j-1) / 2=i){x y:aT×Tree}(hx:Q[i]?=some x)(hy:Q[j]?=some y)(I:xF (da Q j) (da Q i))(l:∀k,0<k->k<n->(k-1) / 2=i->uV (da Q j) (da Q k)) :
  ph ((Q.set i y).set j x) j n:=by
 have o:=rQ hx hy;have ac:i≠j:=by{omega};refine⟨λk h1 r J=>?_,λk h1 r J h4=>?_⟩;{rw[o,o];rw[nw J];by_cases P:k=j;{subst P;rw[n0 g,n0 rfl];exact .inl I};{rw[nw P (c:=k=j)];by_cases t:(k-1) / 2=i;{rw[n0 t,nw zo];exact l k h1 r t};{rw[nw t];by_cases R:k=i;{subst R;rw[n0 rfl];have:=h.two j U C g h1;exact this};{rw[nw R];exact h.one k h1 r t}}}};{rw[o,o,g,nw zo,n0 rfl,nw zo,nw zo];have:=h.one k h1 r zo;rw[J] at this;exact this}
theorem H8{Q:List (aT×Tree)}(h:jo Q Q.length):∀i,i<Q.length->uV (da Q 0) (da Q i):=by
 intro i;induction i using Nat.strongRecOn with| _ i g=>{intro hi;by_cases e:i=0;{subst e;exact gp _};{exact k5 (g ((i-1) / 2) zo zo) (h i zo hi)}}
theorem Mo{Q:List (aT×Tree)}(h:jo Q Q.length){x y:aT×Tree}(g:Q[0]?=some x)(j:y∈Q):Ek x.2 y.2:=by
 obtain⟨i,hi⟩:=Vc.1 j;have:=H8 h i (gS hi).1;rw[cB g,cB hi] at this;exact this
theorem zO{Q:List (aT×Tree)}{n i:Nat}(h:i<n):da (Q.take n) i=da Q i:=by
 unfold da;rw[Tv,n0 h]
theorem CT{Q:List (aT×Tree)}{x:aT×Tree}{i:Nat}(h:i<Q.length):da (Q++[x]) i=da Q i:=by
 unfold da;rw[AT h]
theorem jo.push{Q:List (aT×Tree)}(h:jo Q Q.length)(x:aT×Tree):Ep (Q++[x]) Q.length:=by
 refine⟨λk h1 g i=>?_,λk h1 g i j=>?_⟩;{simp at g;rw[CT zo,CT zo];exact h k h1 zo};{simp at g;omega}
theorem jo.pop{Q:List (aT×Tree)}(h:jo Q Q.length){n:Nat}(r:n+1=Q.length){x y:aT×Tree}(j:Q[0]?=some x)(l:Q[n]?=some y):ph ((Q.set 0 y).set n x) 0 n:=by
 have g:=rQ j l;refine⟨λk h1 o i=>?_,λk h1 o i t=>by omega⟩;rw[g,g,nw zo,nw i,nw zo,nw zo];exact h k h1 zo
theorem jo.take{Q:List (aT×Tree)}{n:Nat}(h:jo Q n)(j:n<=Q.length):jo (Q.take n) (Q.take n).length:=λi h1 g=>by
 rw[Tg] at g;rw[zO zo,zO zo];exact h i h1 zo
def tz(C:Ctx)(t:Nat)(name:String):Option (FuncId×Bool):=match C.info t with
 | some i=>match i.methods.find? (·.name==name) with
  | some m=>bif m.path.isEmpty then m.func else none
  | none=>none
 | none=>none
theorem wb{t e:Nat}{r:Row}{name:String}{f:FuncId}{v:Value}(hm:tz CC t name=some (f,true))(j:rowOf rows t=some r)(l:r.d=.pointer e)(h:au):jS CC h (.iface t v) name=some (f,v):=by
 have hu:=iC (C:=CC) hT j l;unfold tz at hm;cases hi:CC.info t with| none=>{rw[hi] at hm;cases hm}| some i=>{rw[hi] at hm;simp only at hm;unfold jS;simp only[hi,hu];cases g:i.methods.find? (·.name==name) with| none=>{rw[g] at hm;cases hm}| some m=>{rw[g] at hm;simp only at hm;cases hp:m.path.isEmpty with| false=>{rw[hp] at hm;cases hm}| true=>{rw[hp] at hm;simp only[xf] at hm;simp only[hp,xf,hm]}}}
theorem dY{t e:Nat}{r:Row}{name:String}{f:FuncId}{v x:Value}{h:au}(hm:tz CC t name=some (f,false))(j:rowOf rows t=some r)(l:r.d=.pointer e)(o:nq CC h e v=some x):jS CC h (.iface t v) name=some (f,x):=by
 have hu:=iC (C:=CC) hT j l;unfold tz at hm;cases hi:CC.info t with| none=>{rw[hi] at hm;cases hm}| some i=>{rw[hi] at hm;simp only at hm;unfold jS;simp only[hi,hu];cases g:i.methods.find? (·.name==name) with| none=>{rw[g] at hm;cases hm}| some m=>{rw[g] at hm;simp only at hm;cases hp:m.path.isEmpty with| false=>{rw[hp] at hm;cases hm}| true=>{rw[hp] at hm;simp only[xf] at hm;simp only[hp,xf,hm,o];rfl}}}
theorem FD:tz CC 212 "Len" = some (213,false):=by decide +kernel
theorem re:tz CC 212 "Less" = some (214,false):=by decide +kernel
theorem qu:tz CC 212 "Swap" = some (215,false):=by decide +kernel
theorem Kr:tz CC 212 "Push" = some (218,true):=by decide +kernel
theorem MF:tz CC 212 "Pop" = some (217,true):=by decide +kernel
def gU(c:aT)(t:Value):List Value:=[.int .i64 c.node,.int .i64 c.pack,.int .i64 c.r0,.int .i64 c.r1,.int .i64 c.r2,.int .i64 c.r3,t]
def yy:Ty (aT×Tree) where
 size:=7
 rel:=λF l x=>∃p,l=gU x.1 (.pointer (some ⟨p,0,none⟩))/\Sh F p x.2/\x.2.pre.length<=100000
 len:=λ_ _ _ h=>by obtain⟨p,rfl,_⟩:=h;rfl
 one:=λ_ _ _ h=>by obtain⟨p,rfl,_⟩:=h;rfl
 mono:=λ_ _ _ _ g h=>by obtain⟨p,e,h,i⟩:=h;exact⟨p,e,h.mono g,i⟩
structure LB where
 li:Nat
 x0:Value
 x1:Value
 x2:Value
 x3:Value
 x4:Value
 x5:Value
 ok:Go.Abs.one x0=true/\Go.Abs.one x1=true/\Go.Abs.one x2=true/\Go.Abs.one x3=true/\Go.Abs.one x4=true/\Go.Abs.one x5=true
def mB(L:LB)(a:Option Addr)(n c:Nat):List Value:=[L.x0,L.x1,L.x2,L.x3,L.x4,L.x5,.slice a n c]
def lB(L:LB)(a:Option Addr)(n c:Nat)(B:List (Nat×aJ)):List (Nat×aJ):=(L.li,.cells false (mB L a n c))::B
def Dk(L:LB):Value:=.pointer (some ⟨L.li,6,none⟩)
def qI(L:LB):Value:=.iface 212 (Dk L)
theorem CL(F:aA)(a:Option Addr)(n c:Nat):Abs.Spec CC 213 [.slice a n c] F [] λ_ v o=>o=[]/\v=.int .i64 (n:Nat):=by
 refine Abs.Spec.fn (n:=5) Tryz.func213 rfl rfl λown=>?_;refine aq ?_;exact AW.ret ⟨_,[],⟨_,_,rfl,rfl,rfl⟩,bF,rfl,rfl⟩
theorem HD(G:aA){a:Option Addr}{n c:Nat}{Q:List (aT×Tree)}(I:bk yy G a n c Q){i k:Nat}{x y:aT×Tree}(hi:Q[i]?=some x)(hk:Q[k]?=some y) :
  Abs.Spec CC 214 [.slice a n c,.int .i64 (i:Nat),.int .i64 (k:Nat)] G [] λ_ v o=>o=[]/\∃b,v=.bool b/\(b=true↔rL x.2 y.2):=by
 have ac:=I.len;have ad:=(gS hi).1;have ae:=(gS hk).1;refine Abs.Spec.fn (n:=19) Tryz.func214 rfl rfl λown=>?_;refine aq ?_;refine WT.bh hT I Z Z Z Z Z Z Z Z Z zo (λz g b7 aa af ag al J r j=>?_);rw[hi] at g;cases g;obtain⟨p,rfl,P,R⟩:=j;unfold gU at r;refine aq ?_;refine WT.bh hT I Z Z Z Z Z Z Z Z Z zo (λz g b8 ab an ao ar av U l=>?_);rw[hk] at g;cases g;obtain⟨q,rfl,t,C⟩:=l;unfold gU at U;clear r J;refine aq ?_;refine WT.bj Tryz.func216 Z Z Z Z Z Z (A9 _ P t R C) (λv hv=>?_);obtain⟨z,rfl,g⟩:=hv;refine aq ?_;exact AW.ret ⟨_,[],⟨_,_,rfl,rfl,rfl⟩,bF,rfl,_,rfl,by simpa using g⟩
theorem GO(L:LB)(a:Option Addr)(n c:Nat)(B:List (Nat×aJ))(own:bA):ah ([(L.li,.cells false (mB L a n c))]::B::own) (lB L a n c B::own):=ah.flat (Va (by simp[lB]))
theorem C8(L:LB)(a:Option Addr)(n c:Nat)(B:List (Nat×aJ))(own:bA):ah (lB L a n c B::own) ([(L.li,.cells false (mB L a n c))]::B::own):=ah.flat (Va (by simp[lB]))
theorem ot(F:aA)(L:LB){a:Option Addr}{n c:Nat}{B:List (Nat×aJ)}{Q:List (aT×Tree)}(g:GB yy F a n c B Q){i k:Nat}{x y:aT×Tree}(hi:Q[i]?=some x)(hk:Q[k]?=some y) :
  Abs.Spec CC 215 [.slice a n c,.int .i64 (i:Nat),.int .i64 (k:Nat)] F [lB L a n c B] λF' v o=>∃U,o=[U]/\∃B2,U=lB L a n c B2/\GB yy F' a n c B2 ((Q.set i y).set k x):=by
 have ac:=g.len;have ad:=(gS hi).1;have ae:=(gS hk).1;refine Abs.Spec.fn (n:=20) Tryz.func215 rfl rfl λown=>?_;refine AW.le (GO _ _ _ _ _ _) (aq ?_);refine WT.rp hT g Z Z Z Z Z Z Z Z Z zo (λb1 t=>?_);refine WT.KE hT 1 g t hk Z Z Z Z Z Z (λz j=>j) Z Z Z (λl hl=>?_);refine aq ?_;refine WT.rp hT g Z Z Z Z Z Z Z Z Z zo (λb2 C=>?_);refine WT.KE hT 1 g C hi Z Z Z Z Z Z (λz j=>j) Z Z Z (λl2 I=>?_);refine WT.rp hT g Z Z Z Z Z Z Z Z Z zo (λb3 J=>?_);refine WT.Sa (y:=y) hT 1 g J hi Z Z Z Z Z hl Z (λ_=>rfl) Z (λB6 r=>?_);obtain⟨z,j⟩:∃z,(Q.set i y)[k]?=some z:=⟨_,gE (by simp;omega)⟩;refine WT.rp hT r Z Z Z Z Z Z Z Z Z zo (λb4 P=>?_);refine WT.Sa (y:=x) hT 1 r P j Z Z Z Z Z I Z (λ_=>rfl) Z (λB7 R=>?_);refine WT.le (C8 _ _ _ _ _ _) (aq ?_);exact⟨_,[_],rfl,bF,_,rfl,B7,rfl,R⟩
theorem JQ(F:aA)(L:LB){a:Option Addr}{n c:Nat}{B:List (Nat×aJ)}{Q:List (aT×Tree)}(g:GB yy F a (n+1) c B Q)(hn:n<=1000000000000){x:aT×Tree}(C:Q[n]?=some x) :
  Abs.Spec CC 217 [Dk L] F [lB L a (n+1) c B] λI v o=>∃t,o=[t]/\t=lB L a n c B/\∃l,v=.iface 209 (.agg ⟨l⟩)/\yy.rel I l x:=by
 have J:=g.len;unfold lB mB Dk;refine Abs.Spec.fn (n:=23) Tryz.func217 rfl rfl λown=>?_;refine AW.le (GO L a (n+1) c B own) ?_;unfold mB;refine ak ?_;refine WT.gn (v':=.int .i64 (n:Nat)) 11 Z (by simp) (WT.rp hT g Z Z Z Z Z Z Z Z Z zo (λb1 i=>?_));refine WT.KE hT 1 g i C Z Z Z Z Z Z (λz P=>P) Z Z Z (λl R=>?_);obtain⟨p,rfl,j,r⟩:=R;unfold gU;refine WT.az hT Z Z Z Z Z Z (λi4 U=>?_);refine ak ?_;refine WT.gn (v':=.int .i64 (n:Nat)) 18 Z (by simp) (WT.vy hT g Z Z Z Z Z Z Z Z Z (show n<=n+1 by omega) (aq ?_));refine WT.sy hT Z Z Z Z Z Z (aq ?_);refine AW.le (ah.skip _ (C8 L a n c B own)) (AW.ret ⟨_,[_],⟨_,_,rfl,rfl,rfl⟩,bF,_,rfl,rfl,_,rfl,p,rfl,j,r⟩)
theorem H3(F:aA)(L:LB){a:Option Addr}{n c:Nat}{B:List (Nat×aJ)}{Q:List (aT×Tree)}(j:GB yy F a n c B Q)(hn:n<=1000000000000){x:aT×Tree}{l:List Value}(r:yy.rel F l x) :
  Abs.Spec CC 218 [Dk L,.iface 209 (.agg ⟨l⟩)] F [lB L a n c B] λF' v o=>∃t,o=[t]/\∃C I J,t=lB L C (n+1) I J/\GB yy F' C (n+1) I J (Q++[x]):=by
 have ab:=j.len;have g:=r;obtain⟨p,rfl,ac,ad⟩:=r;unfold lB mB Dk;refine Abs.Spec.fn (n:=13) Tryz.func218 rfl rfl λown=>?_;refine AW.le (GO L a n c B own) ?_;unfold mB;refine AW.draw (ps:=[(3,6)]) Z Z (aq ?_);refine WT.Ea hT Z Z Z Z Z Z ?_;unfold gU;refine WT.aR hT Z Z Z Z Z Z Z Z Z Z Z Z Z Z (λi9 ae=>?_);refine WT.lY (ys:=[x]) hT 2 j Z (λ_=>rfl) Z Z Z Z Z Z Z Z Z Z Z (λh0 s0=>aN hT s0 0 Z Z Z Z) (aG.single (R:=yy) (x:=x) g) Z (by decide) fj (λa3 P U i=>?_);refine ze hT Z Z Z Z Z (zs hT 1 0 Z Z Z Z Z Z Z Z Z Z Z Z (WT.le (ah.skip _ (C8 L a3 (n+1) P U own)) (aq ?_)));refine⟨lU,?_⟩;exact⟨_,[_],rfl,bF,_,rfl,a3,P,U,rfl,i.gb⟩
structure R5 where
 j:Nat
 B:List (Nat×aJ)
 Q:List (aT×Tree)
theorem Ja{L:LB}{F:aA}{a:Option Addr}{n c:Nat}{B:List (Nat×aJ)}{Q:List (aT×Tree)}(g:GB yy F a n c B Q){i k:Nat}{x y:aT×Tree}(hi:Q[i]?=some x)(hk:Q[k]?=some y)(G:aA)(j:aA.le F G)(l:∀i b,(i,b)∈lB L a n c B->G i=some b) :
  Abs.Spec CC 214 [.slice a n c,.int .i64 (i:Nat),.int .i64 (k:Nat)] G [] λ_ v o=>o=[]/\∃b,v=.bool b/\(b=true↔rL x.2 y.2):=
 HD G (g.arr j λi b hm=>l i b (mb _ hm)) hi hk
theorem KP(F:aA)(L:LB){a:Option Addr}{n c:Nat}{B:List (Nat×aJ)}{Q:List (aT×Tree)}(hq:GB yy F a n c B Q)(hn:n<=1000000000000){j:Nat}(hj:j<n)(hu:Ep Q j) :
  Abs.Spec CC 165 [qI L,.int .i64 (j:Nat)] F [lB L a n c B] λF' v o=>∃B',o=[B']/\∃R J,B'=lB L a n c R/\GB yy F' a n c R J/\J.Perm Q/\jo J J.length:=by
 have al:=hq.len;unfold qI Dk;refine Abs.Spec.fn (n:=23) Tryz.func165 rfl rfl λown=>?_;refine AW.block (AW.ek (S:=R5) (λs=>[(1,.int .i64 (s.j:Nat))]) (λs=>lB L a n c s.B::own) (λs G=>GB yy G a n c s.B s.Q/\s.Q.Perm Q/\s.j<n/\Ep s.Q s.j) (λs=>s.j) ⟨j,B,Q⟩ sM oR ⟨hq,sh _,hj,hu⟩ ?_);intro s F1 ao hP;obtain⟨C,g,av,i⟩:=hP;have ax:=C.len;rcases Ts s.j with h0 | h0;{rw[h0] at i ⊢;refine AW.block (aq ?_);refine WT.Rk (x:=-1) (y:=2) Z Z Z Z Z Z (by decide) (aq ?_);refine AW.cond Z (λ_=>?_) (λh=>(by cases h));refine AW.exit ⟨_,[_],rfl,bF,_,rfl,s.B,s.Q,rfl,C,g,i.stop (.inl rfl)⟩};{obtain⟨x,r⟩:∃x,s.Q[(s.j-1) / 2]?=some x:=⟨_,gE zo⟩;obtain⟨y,t⟩:∃y,s.Q[s.j]?=some y:=⟨_,gE zo⟩;refine AW.block (ak ?_);refine WT.RG 2 Z Z Z Z Z Z (by decide) zo (ak ?_);refine WT.gn (v':=.bool false) 11 Z (by congr 1;simp;omega) (ak ?_);refine WT.jL 0 Tryz.func214 Z Z Z Z Z Z Z (λh U=>dY re Z Z (aD (U.has (p:=0) Z me) (aM hT rfl))) Z (λG hG aa=>Ja C t r G hG aa) (λv hv=>?_);obtain⟨b,rfl,I⟩:=hv;refine ak ?_;refine AW.cond Z (λP=>?_) (λP=>?_);{have l:¬rL y.2 x.2:=λh=>by{rw[I.2 h] at P;cases P};refine AW.exit ⟨_,[_],rfl,bF,_,rfl,s.B,s.Q,rfl,C,g,i.stop (.inr ?_)⟩;rw[cB r,cB t];exact(qG _ _).resolve_right l};{have l:rL y.2 x.2:=I.1 (by simpa using P);refine ak ?_;refine WT.mU 0 Tryz.func215 Z Z Z Z Z Z Z (λh U=>dY qu Z Z (aD (U.has (p:=0) Z me) (aM hT rfl))) Z (λ_=>rfl) (ot F1 L C r t) (λF2 v R a0 hv=>?_);obtain⟨B3,rfl,ac⟩:=hv;refine ak ?_;refine⟨⟨(s.j-1) / 2,B3,(s.Q.set ((s.j-1) / 2) y).set s.j x⟩,by show (s.j-1) / 2<s.j;omega,sM,cF,ac,(ou r t).trans g,by show (s.j-1) / 2<n;omega,i.step h0 r t (by rw[cB r,cB t];exact l)⟩}}
theorem QL{p:Prop} (h:p:=by{refine ak ?_;refine WT.jL 0 Tryz.func214 Z Z Z Z Z Z Z (λh s0=>dY re Z Z (aD (s0.has (p:=0) Z me) (aM hT rfl))) Z (λG hG hBG=>Ja hb hy1 hx G hG hBG) (λv hv=>?_);obtain⟨b2,rfl,hlt2⟩:=hv;refine ak ?_;refine AW.cond Z (λhd=>?_) (λhd=>?_);{have hb0:¬rL y1.2 x.2:=λh=>by{rw[hlt2.2 h] at hd;cases hd};refine AW.exit ?_;refine ak ?_;refine AW.ret ⟨_,[_],⟨_,_,rfl,rfl,rfl⟩,bF,_,rfl,s.B,s.Q,rfl,hb,hperm,hu1.stop (λk h1 h2 h3=>?_),hsame⟩;refine k5 ?_ (hmin k h1 h2 h3);rw[cB hx,cB hy1];exact(qG _ _).resolve_right hb0};{have hb0:rL y1.2 x.2:=hlt2.1 (by simpa using hd);refine ak ?_;refine WT.mU 0 Tryz.func215 Z Z Z Z Z Z Z (λh s0=>dY qu Z Z (aD (s0.has (p:=0) Z me) (aM hT rfl))) Z (λ_=>rfl) (ot F1 L hb hx hy1) (λF2 v B2 hF2 hv=>?_);obtain⟨B3,rfl,hB3⟩:=hv;refine ak ?_;refine⟨⟨2*s.j+1,B3,(s.Q.set s.j y1).set (2*s.j+1) x⟩,by show m-(2*s.j+1)<m-s.j;omega,sM,cF,hB3,(ou hx hy1).trans hperm,.inl (by show 2*s.j+1<m;omega),hu1.step zo zo zo zo hx hy1 (by rw[cB hx,cB hy1];exact hb0) hmin,λi hi=>?_⟩;show ((s.Q.set s.j y1).set (2*s.j+1) x)[i]?=Q[i]?;rw[yf zo,yf zo];exact hsame i hi}}):p:=h
theorem GW(F:aA)(L:LB){a:Option Addr}{n c m:Nat}{B:List (Nat×aJ)}{Q:List (aT×Tree)}(J:GB yy F a n c B Q)(hn:n<=1000000000000)(hm:m<=n)(hu:ph Q 0 m) :
  Abs.Spec CC 118 [qI L,.int .i64 0,.int .i64 (m:Nat)] F [lB L a n c B] λR v o=>∃P,o=[P]/\∃B2 I,P=lB L a n c B2/\GB yy R a n c B2 I/\I.Perm Q/\jo I m/\∀i,m<=i->I[i]?=Q[i]?:=by
 have U:=J.len;unfold qI Dk;refine Abs.Spec.fn (n:=48) Tryz.func118 rfl rfl λown=>?_;refine aq ?_;refine AW.block (AW.ek (S:=R5) (λs=>[(7,.int .i64 (s.j:Nat))]) (λs=>lB L a n c s.B::own) (λs G=>GB yy G a n c s.B s.Q/\s.Q.Perm Q/\(s.j<m\/s.j=0)/\ph s.Q s.j m/\∀i,m<=i->s.Q[i]?=Q[i]?) (λs=>m-s.j) ⟨0,B,Q⟩ sM oR ⟨J,sh _,.inr rfl,hu,λ_ _=>rfl⟩ ?_);intro s F1 aa hP;obtain⟨hb,hperm,ac,hu1,hsame⟩:=hP;have ad:=hb.len;refine AW.block (ak ?_);refine WT.split 18 Z (λr=>?_) (λr=>?_);{have r:m<=2*s.j+1:=by{simp at r;omega};refine ak ?_;refine AW.cond Z (λ_=>?_) (λh=>(by cases h));refine AW.exit (ak ?_);refine AW.ret ⟨_,[_],⟨_,_,rfl,rfl,rfl⟩,bF,_,rfl,s.B,s.Q,rfl,hb,hperm,hu1.stop (λk h1 h2 h3=>by omega),hsame⟩};have r:2*s.j+1<m:=by{simp at r;omega};have ae:2*s.j+1<s.Q.length:=by{omega};obtain⟨x,hx⟩:∃x,s.Q[s.j]?=some x:=⟨_,gE zo⟩;obtain⟨y1,hy1⟩:∃y,s.Q[2*s.j+1]?=some y:=⟨_,gE zo⟩;refine ak ?_;refine AW.cond Z (λh=>?_) (λ_=>?_);{exfalso;simp at h;omega};refine ak ?_;refine WT.split 28 Z (λt=>?_) (λt=>?_);{have t:2*s.j+2<m:=by{simp at t;omega};obtain⟨C,g⟩:∃y,s.Q[2*s.j+1+1]?=some y:=⟨_,gE zo⟩;refine ak ?_;refine WT.jL 0 Tryz.func214 Z Z Z Z Z Z Z (λh s0=>dY re Z Z (aD (s0.has (p:=0) Z me) (aM hT rfl))) Z (λG hG hBG=>Ja hb g hy1 G hG hBG) (λv hv=>?_);obtain⟨b,rfl,l⟩:=hv;refine ak ?_;refine AW.cond Z (λhd=>?_) (λhd=>?_);{have l:=l.1 hd;have hmin:∀k,0<k->k<m->(k-1) / 2=s.j->uV (da s.Q (2*s.j+1+1)) (da s.Q k):=λk h1 h2 h3=>by{have:k=2*s.j+1\/k=2*s.j+1+1:=by{omega};rcases this with rfl | rfl;{rw[cB g,cB hy1];exact .inl l};{exact gp _}};refine ak ?_;refine WT.jL 0 Tryz.func214 Z Z Z Z Z Z Z (λh s0=>dY re Z Z (aD (s0.has (p:=0) Z me) (aM hT rfl))) Z (λG hG hBG=>Ja hb g hx G hG hBG) (λv hv=>?_);obtain⟨b2,rfl,hlt2⟩:=hv;refine ak ?_;refine AW.cond Z (λhd=>?_) (λhd=>?_);{have hb0:¬rL C.2 x.2:=λh=>by{rw[hlt2.2 h] at hd;cases hd};refine AW.exit (ak ?_);refine AW.ret ⟨_,[_],⟨_,_,rfl,rfl,rfl⟩,bF,_,rfl,s.B,s.Q,rfl,hb,hperm,hu1.stop (λk h1 h2 h3=>?_),hsame⟩;refine k5 ?_ (hmin k h1 h2 h3);rw[cB hx,cB g];exact(qG _ _).resolve_right hb0};{have hb0:rL C.2 x.2:=hlt2.1 (by simpa using hd);refine ak ?_;refine WT.mU 0 Tryz.func215 Z Z Z Z Z Z Z (λh s0=>dY qu Z Z (aD (s0.has (p:=0) Z me) (aM hT rfl))) Z (λ_=>rfl) (ot F1 L hb hx g) (λF2 v B2 hF2 hv=>?_);obtain⟨B3,rfl,hB3⟩:=hv;refine ak ?_;refine⟨⟨2*s.j+1+1,B3,(s.Q.set s.j C).set (2*s.j+1+1) x⟩,by show m-(2*s.j+1+1)<m-s.j;omega,sM,cF,hB3,(ou hx g).trans hperm,.inl (by show 2*s.j+1+1<m;omega),hu1.step zo zo zo zo hx g (by rw[cB hx,cB g];exact hb0) hmin,λi hi=>?_⟩;show ((s.Q.set s.j C).set (2*s.j+1+1) x)[i]?=Q[i]?;rw[yf zo,yf zo];exact hsame i hi}};{have l:¬rL C.2 y1.2:=λh=>by{rw[l.2 h] at hd;cases hd};have hmin:∀k,0<k->k<m->(k-1) / 2=s.j->uV (da s.Q (2*s.j+1)) (da s.Q k):=λk h1 h2 h3=>by{have:k=2*s.j+1\/k=2*s.j+1+1:=by{omega};rcases this with rfl | rfl;{exact gp _};{rw[cB g,cB hy1];exact(qG _ _).resolve_right l}};exact QL}};{have t:m<=2*s.j+2:=by{simp at t;omega};have hmin:∀k,0<k->k<m->(k-1) / 2=s.j->uV (da s.Q (2*s.j+1)) (da s.Q k):=λk h1 h2 h3=>by{obtain rfl:k=2*s.j+1:=by{omega};exact gp _};refine ak ?_;refine AW.cond Z (λh=>(by cases h)) (λ_=>?_);exact QL}
theorem H4(F:aA)(L:LB){a:Option Addr}{n c:Nat}{B:List (Nat×aJ)}{Q:List (aT×Tree)}(hq:GB yy F a n c B Q)(hn:n<=900000000000)(hh:jo Q Q.length){x:aT×Tree}{l:List Value}(hx:yy.rel F l x) :
  Abs.Spec CC 148 [qI L,.iface 209 (.agg ⟨l⟩)] F [lB L a n c B] λF' v o=>∃B',o=[B']/\∃i r C g,B'=lB L i (n+1) r C/\GB yy F' i (n+1) r C g/\g.Perm (Q++[x])/\jo g g.length:=by
 have I:=hq.len;unfold qI Dk;refine Abs.Spec.fn (n:=12) Tryz.func148 rfl rfl λown=>?_;refine aq ?_;refine WT.mU 0 Tryz.func218 Z Z Z Z Z Z Z (λh s0=>wb Kr Z Z h) Z (λ_=>rfl) (H3 F L hq zo hx) (λF2 v C al t=>?_);obtain⟨i,r,B3,rfl,J⟩:=t;refine aq ?_;refine WT.jL (P:=λv=>v=.int .i64 ((n+1:Nat):Int)) 0 Tryz.func213 Z Z Z Z Z Z Z (λh s0=>dY FD Z Z (aD (s0.has (p:=0) Z me) (aM hT rfl))) Z (λG hG an=>CL G i (n+1) r) (λv t=>?_);subst t;refine aq ?_;refine WT.gn (v':=.int .i64 (n:Nat)) 10 Z (by congr 1;omega) (WT.iA 0 Tryz.func165 Z Z Z Z Z Z Z (λ_=>rfl) (KP F2 L J zo (j:=n) zo (by rw[I];exact hh.push x)) (λF3 v B4 ao t=>?_));obtain⟨B5,g,rfl,R,hp,U⟩:=t;refine aq ?_;exact⟨_,[_],rfl,bF,_,rfl,i,r,B5,g,rfl,R,hp,U⟩
theorem Kb(F:aA)(L:LB){a:Option Addr}{n c:Nat}{B:List (Nat×aJ)}{Q:List (aT×Tree)}(hq:GB yy F a (n+1) c B Q)(hn:n<=900000000000)(hh:jo Q Q.length) :
  Abs.Spec CC 82 [qI L] F [lB L a (n+1) c B] λF' v o=>∃B',o=[B']/\∃R g x l,B'=lB L a n c R/\GB yy F' a n c R g/\Q.Perm (x::g)/\jo g g.length/\(∀y∈g,Ek x.2 y.2)/\v=.iface 209 (.agg ⟨l⟩)/\yy.rel F' l x:=by
 have U:=hq.len;obtain⟨x,I⟩:∃x,Q[0]?=some x:=⟨_,gE zo⟩;obtain⟨y,hy⟩:∃y,Q[n]?=some y:=⟨_,gE zo⟩;unfold qI Dk;refine Abs.Spec.fn (n:=15) Tryz.func82 rfl rfl λown=>?_;refine aq ?_;refine WT.jL (P:=λv=>v=.int .i64 ((n+1:Nat):Int)) 0 Tryz.func213 Z Z Z Z Z Z Z (λh J=>dY FD Z Z (aD (J.has (p:=0) Z me) (aM hT rfl))) Z (λG hG ar=>CL G a (n+1) c) (λv r=>?_);subst r;refine aq ?_;refine WT.gn (v':=.int .i64 (n:Nat)) 8 Z (by congr 1;omega) (WT.mU 0 Tryz.func215 Z Z Z Z Z Z Z (λh J=>dY qu Z Z (aD (J.has (p:=0) Z me) (aM hT rfl))) Z (λ_=>rfl) (ot F L hq I hy) (λF2 v R ax r=>?_));obtain⟨B3,rfl,ab⟩:=r;refine aq ?_;refine WT.gn (v':=.int .i64 (n:Nat)) 11 Z (by congr 1;omega) (WT.iA 0 Tryz.func118 Z Z Z Z Z Z Z (λ_=>rfl) (GW F2 L ab zo (m:=n) zo (hh.pop U I hy)) (λF3 v B4 a0 r=>?_));obtain⟨B5,g,rfl,t,hp,ac,C⟩:=r;have an:=t.len;have i:g[n]?=some x:=by{rw[C n (mc _),xk (by simp;omega)]};refine aq ?_;refine WT.mU 0 Tryz.func217 Z Z Z Z Z Z Z (λh J=>wb MF Z Z h) Z (λ_=>rfl) (JQ F3 L t zo i) (λF4 v B6 ad r=>?_);obtain⟨rfl,l,rfl,hl⟩:=r;refine aq ?_;have j:Q.Perm (x::g.take n):=by{have e:g=g.take n++[x]:=by{have:=Ut n g;rw[Tl zo] at this;have h2:=(gS i).2;rw[h2,TE zo] at this;exact this.symm};have p1:=(hp.trans (ou I hy)).symm;rw[e] at p1;exact p1.trans (UU (l₁:=g.take n) (l₂:=[x]))};refine AW.ret ⟨_,[_],⟨_,_,rfl,rfl,rfl⟩,bF,_,rfl,B5,g.take n,x,l,rfl,(t.mono ad).take (VW n),j,ac.take zo,λz hz=>?_,rfl,hl⟩;exact Mo hh I (j.mem_iff.2 (mb _ hz))
end Go.Proofs.D
set_option linter.unusedVariables false
set_option maxRecDepth 20000
set_option maxHeartbeats 0
open Go Go.Abs Go.Proofs Go.Proofs.D
namespace Go.Abs
def tY(T:RT)(eq:Value->Value->Option Bool)(e s:Nat)(xs ys:List Value):List Nat->Option Bool
 | []=>some true
 | i::is=>match oK T xs e (i*s),oK T ys e (i*s) with
  | some a,some b=>match eq a b,tY T eq e s xs ys is with
   | some p,some q=>some (p&&q)
   | _,_=>none
  | _,_=>none
def NZ(C:Ctx)(T:RT):Nat->TypeId->Value->Value->Option Bool
 | 0,_,_,_=>none
 | n+1,t,x,y=>
  match rowOf T t with
  | some r=>match r.d,x,y with
   | .struct g,.agg ⟨xs⟩,.agg ⟨ys⟩=>bif C.flat t then mX T (NZ C T n) g xs ys else none
   | .array len e,.agg ⟨xs⟩,.agg ⟨ys⟩=>match ef T e with
    | some s=>tY T (NZ C T n e) e s xs ys (List.range len)
    | none=>none
   | .int _,.int k a,.int i b=>if k=i then some (a==b) else none
   | .pointer _,.pointer none,.pointer none=>some true
   | _,_,_=>none
  | none=>none
def qY(T:RT)(ok:Value->Bool)(e s:Nat)(xs:List Value):List Nat->Bool
 | []=>true
 | i::is=>(match oK T xs e (i*s) with
  | some a=>ok a
  | none=>false)&&qY T ok e s xs is
def II(T:RT):Nat->TypeId->Value->Bool
 | 0,_,_=>false
 | n+1,t,v=>
  match rowOf T t with
  | some r=>match r.d,v with
   | .struct g,.agg ⟨cs⟩=>lF T (II T n) g cs
   | .array len e,.agg ⟨xs⟩=>match ef T e with
    | some s=>qY T (II T n e) e s xs (List.range len)
    | none=>false
   | .int _,v=>!cm v
   | .pointer _,v=>!cm v
   | _,_=>false
  | none=>false
section
variable {C:Ctx}{T:RT}(hT:aU C T=true)
include hT
theorem xh{g j:Value->Value->Option Bool}(he:∀x y b,g x y=some b->j x y=some b)(e s:Nat)(xs ys:List Value):∀(is:List Nat) (b:Bool),tY T g e s xs ys is=some b->nX C j e s xs ys is=some b
 | [],b,q=>q
 | i::is,b,q=>by{simp only[tY] at q;split at q;{rename_i u v hu l;split at q;{rename_i p r hp o;cases q;unfold nX;rw[aM hT hu,aM hT l];simp only[he _ _ _ hp];cases p with| true=>{simpa using xh he e s xs ys is r o}| false=>{rfl}};{cases q}};{cases q}}
theorem xZ:∀(n:Nat) (t:TypeId) (x y:Value) (b:Bool),NZ C T n t x y=some b->rD C n t x y=some b
 | 0,_,_,_,_,q=>by cases q
 | n+1,t,x,y,b,q=>by{unfold NZ at q;split at q;{rename_i r i;split at q;{rename_i p xs ys g;obtain⟨o,hu,j⟩:=gw hT i g;cases l:C.flat t with| false=>{rw[l] at q;cases q}| true=>{rw[l] at q;simp only[xf] at q;unfold rD;simp only[hu,l,xf];rw[j] at q;exact nP hT (xZ n) _ _ _ _ q}};{rename_i len e xs ys g;have hu:=mN hT i g;split at q;{rename_i s hs;unfold rD;simp only[hu,bS hT hs];exact xh hT (λx y b=>xZ n e x y b) e s _ _ _ _ q};{cases q}};{rename_i I k a J b' g;have hu:=uN hT i g;unfold rD;simp only[hu,fL];exact q};{rename_i g;have hu:=iC hT i g;cases q;unfold rD;simp only[hu,fL]};{cases q}};{cases q}}
theorem tw{Og g:Value->Bool}(he:∀v,Og v=true->g v=true)(e s:Nat)(xs:List Value):∀(is:List Nat),qY T Og e s xs is=true->mS C g e s xs is=true
 | [],_=>rfl
 | i::is,q=>by{simp only[qY,tx] at q;obtain⟨j,l⟩:=q;unfold mS;rw[tw he e s xs is l,Vn];split at j;{rename_i a o;rw[aM hT o];exact he _ j};{cases j}}
theorem uf:∀(n:Nat) (t:TypeId) (v:Value),II T n t v=true->eD C n t v=true
 | 0,_,_,q=>by cases q
 | n+1,t,v,q=>by{unfold II at q;split at q;{rename_i r i;split at q;{rename_i o cs g;obtain⟨l,hu,j⟩:=gw hT i g;unfold eD;simp only[hu];rw[j] at q;exact mA hT (uf n) _ _ q};{rename_i len e xs g;split at q;{rename_i s hs;unfold eD;simp only[mN hT i g,bS hT hs];exact tw hT (λv=>uf n e v) e s _ _ q};{cases q}};{rename_i k g;unfold eD;rw[uN hT i g];simpa [sC] using q};{rename_i k g;unfold eD;rw[iC hT i g];simpa [sC] using q};{cases q}};{cases q}}
end
end Go.Abs
namespace Go.Proofs.D
theorem Lh(p q:aT):(((p.node:Int)==(q.node:Int))&&(((p.pack:Int)==(q.pack:Int))&&((((p.r0:Int)==(q.r0:Int))&&(((p.r1:Int)==(q.r1:Int))&&(((p.r2:Int)==(q.r2:Int))&&(((p.r3:Int)==(q.r3:Int))&&true))))&&(true&&true))))=decide (p=q):=by
 rw[T8];obtain⟨a,b,c,d,e,f⟩:=p;obtain⟨g,b',i,j,l,o⟩:=q;simp only[tx,T5,TQ,aT.mk.injEq,Vs];omega
def OS:qd CC 209 aT where
 key:=λp=>.agg ⟨gU p (.pointer none)⟩
 ok:=λp=>uf hT 8 _ _ rfl
 eq:=λp q=>by
  have h:rD CC 8 209 (.agg ⟨gU p (.pointer none)⟩) (.agg ⟨gU q (.pointer none)⟩)=some (decide (p=q)):=by
   rw[<-Lh];exact xZ hT 8 _ _ _ _ rfl
  by_cases e:p=q
  ·exact .inl ⟨e,by rw[h];simp[e]⟩
  ·exact .inr ⟨e,by rw[h];simp[e]⟩
def Lk:qd CC 269 (Nat×Nat) where
 key:=λp=>.agg ⟨[.int .i64 p.1,.int .i64 p.2]⟩
 ok:=λp=>uf hT 8 _ _ rfl
 eq:=λp q=>by
  have h:rD CC 8 269 (.agg ⟨[.int .i64 p.1,.int .i64 p.2]⟩) (.agg ⟨[.int .i64 q.1,.int .i64 q.2]⟩)=some (decide (p=q)):=by
   rw[<-Pz];exact xZ hT 8 _ _ _ _ rfl
  by_cases e:p=q
  ·exact .inl ⟨e,by rw[h];simp[e]⟩
  ·exact .inr ⟨e,by rw[h];simp[e]⟩
inductive kF(F:aA):List Value->List (Nat×aJ)->List (List Nat)->Prop
 | nil:kF F [] [] []
 | cons {a:Option Addr} {n c:Nat} {B bs:List (Nat×aJ)} {ps:List Nat} {vs:List Value} {qD:List (List Nat)}:cb jU F a n c B ps->kF F vs bs qD->kF F (.slice a n c::vs) (B++bs) (ps::qD)
theorem OR{F G:aA}{cs:List Value}{ps:List Nat}(h:aG jU F cs ps):aG jU G cs ps:=by
 induction h with| nil=>{exact .nil}| cons h _ g=>{exact .cons h g}
theorem Rz{F G:aA}{a:Option Addr}{n c:Nat}{B:List (Nat×aJ)}{ps:List Nat}(h:cb jU F a n c B ps):cb jU G a n c B ps:=
 ⟨h.len,h.at_.imp id λ⟨i,cs,h1,g,j,l,o⟩=>⟨i,cs,h1,g,j,OR l,o⟩⟩
theorem kF.any{F G:aA}{vs:List Value}{bs:List (Nat×aJ)}{qD:List (List Nat)}(h:kF F vs bs qD):kF G vs bs qD:=by
 induction h with| nil=>{exact .nil}| cons h _ g=>{exact .cons (Rz h) g}
theorem kF.len{F:aA}{vs:List Value}{bs:List (Nat×aJ)}{qD:List (List Nat)}(h:kF F vs bs qD):vs.length=qD.length:=by
 induction h with| nil=>{rfl}| cons _ _ g=>{simp[g]}
theorem kF.split{F:aA}{vs:List Value}{bs:List (Nat×aJ)}{qD:List (List Nat)}(h:kF F vs bs qD):∀{i:Nat} {ps:List Nat},qD[i]?=some ps->
  ∃a n c B r t,vs[i]?=some (.slice a n c)/\bs=r++(B++t)/\cb jU F a n c B ps/\
   ∀(j:Option Addr) (l o:Nat) (p:List (Nat×aJ)) (g:List Nat),cb jU F j l o p g->kF F (vs.set i (.slice j l o)) (r++(p++t)) (qD.set i g):=by
 induction h with| nil=>{intro i ps h;simp at h}| @cons a n c B bs I vs qD C J P=>{intro i ps hi;cases i with| zero=>{obtain rfl:I=ps:=by{simpa using hi};exact⟨a,n,c,B,[],bs,rfl,rfl,C,λj l o p g R=>(show kF F (.slice j l o::vs) (p++bs) (g::qD) from .cons R J)⟩}| succ i=>{obtain⟨j,l,o,p,r,t,h1,U,h3,h4⟩:=P (i:=i) (by simpa using hi);refine⟨j,l,o,p,B++r,t,by simpa using h1,by rw[U,By],h3,λa2 n2 c2 B2 p2 h5=>?_⟩;have:=kF.cons C (h4 a2 n2 c2 B2 p2 h5);simpa [By] using this}}
def KN:Ty aT where
 size:=7
 rel:=λ_ l c=>l=gU c (.pointer none)
 len:=λ_ _ _ h=>by rw[h];rfl
 one:=λ_ _ _ h=>by rw[h];rfl
 mono:=λ_ _ _ _ _ h=>h
theorem Po{F G:aA}{cs:List Value}{ps:List aT}(h:aG KN F cs ps):aG KN G cs ps:=by
 induction h with| nil=>{exact .nil}| cons h _ g=>{exact .cons h g}
theorem PQ{F G:aA}{a:Option Addr}{n c:Nat}{B:List (Nat×aJ)}{ps:List aT}(h:cb KN F a n c B ps):cb KN G a n c B ps:=
 ⟨h.len,h.at_.imp id λ⟨i,cs,h1,g,j,l,o⟩=>⟨i,cs,h1,g,j,Po l,o⟩⟩
inductive fB(F:aA):cd (Nat×Nat)->List (Nat×aJ)->List ((Nat×Nat)×List aT)->Prop
 | nil:fB F [] [] []
 | cons {k:Nat×Nat} {a:Option Addr} {n c:Nat} {B bs:List (Nat×aJ)} {cs:List aT} {m:cd (Nat×Nat)} {ws:List ((Nat×Nat)×List aT)}:cb KN F a n c B cs->fB F m bs ws->fB F ((k,.slice a n c)::m) (B++bs) ((k,cs)::ws)
theorem fB.any{F G:aA}{m:cd (Nat×Nat)}{bs:List (Nat×aJ)}{ws:List ((Nat×Nat)×List aT)}(h:fB F m bs ws):fB G m bs ws:=by
 induction h with| nil=>{exact .nil}| cons h _ g=>{exact .cons (PQ h) g}
def eS:List ((Nat×Nat)×List aT)->Nat×Nat->List aT
 | [],_=>[]
 | (k,cs)::ws,w=>if w=k then cs else eS ws w
theorem JE{F:aA}{m:cd (Nat×Nat)}{bs:List (Nat×aJ)}{ws:List ((Nat×Nat)×List aT)}(h:fB F m bs ws){w:Nat×Nat}(hw:∀p∈m,p.1≠w):eS ws w=[]:=by
 induction h with| nil=>{rfl}| cons _ _ g=>{unfold eS;rw[nw λe=>hw _ me e.symm];exact g λp hp=>hw p (mb _ hp)}
theorem fB.split{F:aA}{m:cd (Nat×Nat)}{bs:List (Nat×aJ)}{ws:List ((Nat×Nat)×List aT)}(h:fB F m bs ws)(hn:(m.map (·.1)).Nodup)(w:Nat×Nat) :
  (Abs.look m w=none/\eS ws w=[]/\kP m w=m/\∀(a:Option Addr) (n c:Nat) (B:List (Nat×aJ)) (cs:List aT),cb KN F a n c B cs->∃g,fB F (cE m w (.slice a n c)) (bs++B) g/\∀x,eS g x=if x=w then cs else eS ws x)\/
  (∃a n c B J P,Abs.look m w=some (.slice a n c)/\bs=J++(B++P)/\cb KN F a n c B (eS ws w)/\
   (∀(j:Option Addr) (l o:Nat) (t:List (Nat×aJ)) (cs':List aT),cb KN F j l o t cs'->∃g,fB F (cE m w (.slice j l o)) (J++(t++P)) g/\∀x,eS g x=if x=w then cs' else eS ws x)/\
   ∃g,fB F (kP m w) (J++P) g/\∀x,eS g x=if x=w then [] else eS ws x):=by
 induction h with| nil=>{exact .inl ⟨rfl,rfl,rfl,λa n c B cs I=>⟨[(w,cs)],by simpa [cE] using fB.cons (k:=w) I .nil,λx=>by simp[eS]⟩⟩}| @cons k a n c B bs cs m ws I hW ih=>{simp only[y2,TJ] at hn;by_cases e:w=k;{subst e;refine .inr ⟨a,n,c,B,[],bs,by simp[Abs.look],rfl,by simpa [eS] using I,λj l o t cs' r=>⟨(w,cs')::ws,?_,λx=>?_⟩,ws,?_,λx=>?_⟩;{have:cE ((w,Value.slice a n c)::m) w (.slice j l o)=(w,.slice j l o)::m:=by{simp[cE]};rw[this];exact(show fB F ((w,.slice j l o)::m) (t++bs) ((w,cs')::ws) from .cons r hW)};{unfold eS;by_cases i:x=w;{rw[n0 i,n0 i]};{rw[nw i,nw i,nw i]}};{have:kP ((w,Value.slice a n c)::m) w=m:=by{simp[kP]};rw[this];exact hW};{by_cases i:x=w;{rw[n0 i,i];exact JE hW λp hp e2=>hn.1 (x6.2 ⟨p,hp,e2⟩)};{rw[nw i];show eS ws x=eS ((w,cs)::ws) x;unfold eS;rw[nw i];cases ws<;>rfl}}};{have hg:∀(ws:List ((Nat×Nat)×List aT)) (cs:List aT),eS ((k,cs)::ws) w=eS ws w:=λws cs=>by{show (if w=k then cs else eS ws w)=_;rw[nw e]};have C:∀(g:List ((Nat×Nat)×List aT)) (v:List aT),(∀x,eS g x=if x=w then v else eS ws x)->∀x,eS ((k,cs)::g) x=if x=w then v else eS ((k,cs)::ws) x:=λg v h x=>by{show (if x=k then cs else eS g x)=if x=w then v else (if x=k then cs else eS ws x);by_cases i:x=k;{rw[n0 i,nw (λe2=>e (e2.symm.trans i)),n0 i]};{rw[nw i,h x,nw i]}};rcases ih hn.2 with ⟨h1,h2,ae,h3⟩ | ⟨a2,n2,c2,B2,J,P,h1,h2,h3,h4,g,R,U⟩;{refine .inl ⟨by simp only[Abs.look];rw[nw e];exact h1,by rw[hg];exact h2,by simp only[kP];rw[nw e,ae],λj l o t cs' r=>?_⟩;obtain⟨g,R,U⟩:=h3 j l o t cs' r;refine⟨(k,cs)::g,?_,C g cs' U⟩;have:cE ((k,Value.slice a n c)::m) w (.slice j l o)=(k,.slice a n c)::cE m w (.slice j l o):=by{simp only[cE];rw[nw e]};rw[this,By];exact .cons I R};{refine .inr ⟨a2,n2,c2,B2,B++J,P,by simp only[Abs.look];rw[nw e];exact h1,by rw[h2,By],by rw[hg];exact h3,λj l o t cs' r=>?_,(k,cs)::g,?_,C g [] U⟩;{obtain⟨g,R,U⟩:=h4 j l o t cs' r;refine⟨(k,cs)::g,?_,C g cs' U⟩;have:cE ((k,Value.slice a n c)::m) w (.slice j l o)=(k,.slice a n c)::cE m w (.slice j l o):=by{simp only[cE];rw[nw e]};rw[this,By];exact .cons I R};{have:kP ((k,Value.slice a n c)::m) w=(k,.slice a n c)::kP m w:=by{simp only[kP];rw[nw e]};rw[this,By];exact .cons I R}}}}
def bW(Ns:List Node):Fo where
 n:=Ns.length
 leaf:=λv=>match Ns[v]? with
  | some x=>if x.key.sym.term=true then some x.key.sym.n else none
  | none=>none
 cr:=λv=>match Ns[v]? with
  | some x=>x.cr
  | none=>[]
structure LP where
 li:Nat
 na:Option Addr
 nn:Nat
 nc:Nat
 root:Nat
 most:Nat
 lo:Nat
 lc:Nat
 is:Nat
 iw:Nat
structure LR where
 qa:Option Addr
 qn:Nat
 qc:Nat
 qB:List (Nat×aJ)
 Q:List (aT×Tree)
 vs:List Value
 bs:List (Nat×aJ)
 qD:List (List Nat)
 se:List (Value×Value)
 sm:cd aT
 we:List (Value×Value)
 wm:cd (Nat×Nat)
 M2:List (Nat×aJ)
 ws:List ((Nat×Nat)×List aT)
def PE(p:LP):LB:=⟨p.li,.slice p.na p.nn p.nc,.int .i64 p.root,.int .i64 p.most,.slice (some ⟨p.lo,0,none⟩) p.nn p.lc,.map (some p.is),.map (some p.iw),rfl,rfl,rfl,rfl,rfl,rfl⟩
def Bb(p:LP)(r:LR):List (Nat×aJ):=lB (PE p) r.qa r.qn r.qc r.qB++([(p.lo,.cells false r.vs)]++(r.bs++([(p.is,.map r.se)]++([(p.iw,.map r.we)]++r.M2))))
structure A4(p:LP)(Ns:List Node)(F:aA)(r:LR)(s:pS):Prop where
 nodes:bk wv F p.na p.nn p.nc Ns
 q:GB yy F r.qa r.qn r.qc r.qB r.Q
 qp:r.Q.Perm s.q
 qh:jo r.Q r.Q.length
 rows:kF F r.vs r.bs r.qD
 uq:r.qD.length=p.nn
 trees:∀(v:Nat) (ps:List Nat),r.qD[v]?=some ps->lT F ps (s.lists v)
 se:alive r.se=aP OS r.sm
 sl:∀c,Abs.look r.sm c=if c∈s.seen then some (.bool true) else none
 we:alive r.we=aP Lk r.wm
 wn:(r.wm.map (·.1)).Nodup
 ws:fB F r.wm r.M2 r.ws
 wg:∀w,s.waits w=eS r.ws w
theorem A4.mono{p:LP}{Ns:List Node}{F G:aA}{r:LR}{s:pS}(h:A4 p Ns F r s)(g:aA.le F G):A4 p Ns G r s:=
 ⟨h.nodes.mono g,h.q.mono g,h.qp,h.qh,h.rows.any,h.uq,λv ps i=>(h.trees v ps i).mono g,h.se,h.sl,h.we,h.wn,h.ws.any,h.wg⟩
theorem oj(p:LP)(r:LR)(own:bA):ah (((p.li,.cells false [.slice p.na p.nn p.nc,.int .i64 p.root,.int .i64 p.most,.slice (some ⟨p.lo,0,none⟩) p.nn p.lc,.map (some p.is),.map (some p.iw),.slice r.qa r.qn r.qc])::r.qB)::[(p.lo,.cells false r.vs)]::r.bs::[(p.is,.map r.se)]::[(p.iw,.map r.we)]::r.M2::own) (Bb p r::own):=
 ah.flat (Va (by simp[Bb,lB,PE,mB]))
theorem fO(p:LP)(r:LR)(own:bA):ah (Bb p r::own) (((p.li,.cells false [.slice p.na p.nn p.nc,.int .i64 p.root,.int .i64 p.most,.slice (some ⟨p.lo,0,none⟩) p.nn p.lc,.map (some p.is),.map (some p.iw),.slice r.qa r.qn r.qc])::r.qB)::[(p.lo,.cells false r.vs)]::r.bs::[(p.is,.map r.se)]::[(p.iw,.map r.we)]::r.M2::own):=
 ah.flat (Va (by simp[Bb,lB,PE,mB]))
theorem Inv.Ow{f:Fo}{most:Nat}{s:pS}{done g ex:List aT}(h:Inv f most s done g ex):s.q.length<=s.seen.length:=by
 have:=qL (s.q.map (·.1)) s.seen h.I3 λc i=>by{obtain⟨x,j,rfl⟩:=x6.1 i;exact(h.yH x j).1};rwa [tj] at this
theorem Inv.Ov{f:Fo}{most:Nat}{s:pS}{done g ex:List aT}(h:Inv f most s done g ex)(w:Nat×Nat):(s.waits w).length<=s.seen.length:=
 qL (s.waits w) s.seen (h.Gy w) λc i=>(h.qZ w c i).1
theorem IQ{L:Nat->List Tree}:∀{ks rs:List Nat} {j k r:Nat},(∀i,i<j->∃k r t,ks[i]?=some k/\rs[i]?=some r/\(L k)[r]?=some t)->ks[j]?=some k->rs[j]?=some r->(L k)[r]?=none->mW L ks rs=some (k,r)
 | [],_,_,_,_,_,h,_,_=>by simp at h
 | _::_,[],_,_,_,_,_,h,_=>by simp at h
 | k0::ks,r0::rs,0,k,r,_,h1,g,l=>by{obtain rfl:k0=k:=by{simpa using h1};obtain rfl:r0=r:=by{simpa using g};unfold mW;simp only[l]}
 | k0::ks,r0::rs,j+1,k,r,R,h1,g,l=>by{obtain⟨o,C,t,I,J,P⟩:=R 0 zo;obtain rfl:k0=o:=by{simpa using I};obtain rfl:r0=C:=by{simpa using J};unfold mW;simp only[P];exact IQ (j:=j) (λi hi=>by{obtain⟨o,C,t,I,J,P⟩:=R (i+1) zo;exact⟨o,C,t,by simpa using I,by simpa using J,P⟩}) (by simpa using h1) (by simpa using g) l}
theorem Jg{L:Nat->List Tree}{ks rs:List Nat}{ts:List Tree}(h:pick L ks rs=some ts):mW L ks rs=none:=by
 cases hm:mW L ks rs with| none=>{rfl}| some w=>{obtain⟨i,h1,l,o⟩:=kT (k:=w.1) (r:=w.2) hm;obtain⟨r,t,g,j,_⟩:=(cU h).2 i _ h1;rw[l] at g;cases g;rw[o] at j;cases j}
theorem fB.slot{F:aA}{m:cd (Nat×Nat)}{bs:List (Nat×aJ)}{ws:List ((Nat×Nat)×List aT)}(h:fB F m bs ws)(P:(m.map (·.1)).Nodup)(w:Nat×Nat) :
  ∃a n c J r t,(Abs.look m w).getD (.slice none 0 0)=.slice a n c/\bs=r++(J++t)/\cb KN F a n c J (eS ws w)/\
   (∀(i:Option Addr) (j l:Nat) (o:List (Nat×aJ)) (cs':List aT),cb KN F i j l o cs'->∃g,fB F (cE m w (.slice i j l)) (r++(o++t)) g/\∀x,eS g x=if x=w then cs' else eS ws x)/\
   ∃g,fB F (kP m w) (r++t) g/\∀x,eS g x=if x=w then [] else eS ws x:=by
 rcases h.split P w with ⟨h1,p,C,I⟩ | ⟨a,n,c,B,R,U,h1,p,I,h4,h5⟩;{refine⟨none,0,0,[],bs,[],by rw[h1];rfl,by simp,by rw[p];exact cb.cK _ _,λi j l o cs' hb=>?_,ws,by rw[C,Tx];exact h,λx=>?_⟩;{rw[Tx];exact I i j l o cs' hb};{split;{rename_i e;rw[e,p]};{rfl}}};{exact⟨a,n,c,B,R,U,by rw[h1];rfl,p,I,h4,h5⟩}
theorem nV(A B C:List (Nat×aJ))(own:bA):ah ((A++C)::B::own) ((A++(B++C))::own):=by
 refine ah.flat ?_;simp only[TF,By];refine Vy A ?_;have:=(UU (l₁:=B) (l₂:=C)).append_right own.flatten;simpa [By] using this
theorem uX(A B C:List (Nat×aJ))(own:bA):ah ((A++(B++C))::own) ((A++C)::B::own):=by
 refine ah.flat ?_;simp only[TF,By];refine Vy A ?_;have:=(UU (l₁:=C) (l₂:=B)).append_right own.flatten;simpa [By] using this
theorem qm{c:aT}{j r:Nat}{t:Value}(h:c.cl[j]?=some r):([.int .i64 c.node,.int .i64 c.pack,.int .i64 c.r0,.int .i64 c.r1,.int .i64 c.r2,.int .i64 c.r3,t]:List Value)[0+2+j*1]?=some (.int .i64 r):=by
 match j,h with| 0,h=>{simp[aT.cl] at h;subst h;rfl}| 1,h=>{simp[aT.cl] at h;subst h;rfl}| 2,h=>{simp[aT.cl] at h;subst h;rfl}| 3,h=>{simp[aT.cl] at h;subst h;rfl}| _+4,h=>{simp[aT.cl] at h}
structure SV where
 ka:Option Addr
 kc:Nat
 KB:List (Nat×aJ)
 ps:List Nat
 ts:List Tree
theorem BU(F:aA){p:LP}{Ns:List Node}{r:LR}{s:pS}{c:aT}{done bn ex:List aT}(hl:A4 p Ns F r s)(hf:(bW Ns).Good)(hI:Inv (bW Ns) p.most s done (c::bn) ex)(hm:p.most<=1000)(c0:s.seen.length<=800000000000)(fb:Ns.length<=1000000) :
  Abs.Spec CC 117 [.pointer (some ⟨p.li,0,none⟩),.agg ⟨gU c (.pointer none)⟩] F [Bb p r] λF' v o=>∃B',o=[B']/\∃r',B'=Bb p r'/\A4 p Ns F' r' (xC (bW Ns) s c):=by
 have fd:=hl.nodes.len;have ae:=hI.ok c (hI.vH c me);obtain⟨U,aa⟩:=ae.pack;have c1:c.node<Ns.length:=ae.node;obtain⟨x,hx⟩:∃x,Ns[c.node]?=some x:=⟨_,gE c1⟩;have br:x.cr[c.pack]?=some U:=by
  unfold eP bW at aa;simpa [hx] using aa
 have hkid:=hf.kids c.node ae.node U (gM aa);have c2:∀r0∈c.cl,r0<=1000:=λr0 h0=>AS (ae.Nt r0 h0) hm;have fi:=hI.Ow;have fk:r.qn<=800000000000:=by rw[hl.q.len,hl.qp.length_eq];omega
 unfold gU;refine Abs.Spec.fn (n:=120) Tryz.func117 rfl rfl λown=>?_;refine AW.seq (AW.fp ?_);refine WT.bN Z Z Z Z Z Z (λi3 fl=>?_);refine WT.le (ah.cons _ (oj p r own)) (aq ?_);refine AW.draw (ps:=[(4,14),(6,14),(9,14),(11,14),(13,14)]) Z Z (aq ?_);refine WT.bh hT hl.nodes Z Z Z Z Z Z Z Z Z zo (λz hz b7 ee fo fr fs ft fx a1=>?_);rw[hx] at hz;cases hz;obtain⟨pa,pn,pc,rfl,bt⟩:=a1;have eg:=bt.len;refine aq ?_;refine WT.bh hT bt Z Z Z Z Z Z Z Z Z (by have:=(gS br).1;omega) (λz hz b8 eh fy f0 f1 f2 f3 a2=>?_)
 rw[br] at hz;cases hz;obtain⟨ka,kn,kc,rfl,bv,f4⟩:=a2;have en:=bv.len;refine aq ?_;refine WT.az hT Z Z Z Z Z Z (λi4 f5=>?_);refine aq ?_;refine⟨OG,?_⟩;refine aq ?_;refine WT.bN Z Z Z Z Z Z (λi5 f6=>?_);refine aq ?_
 refine AW.range (S:=SV) (λ_=>[]) (λu=>[(i5,.cells false [.int .i64 U.aB,.int .i64 0,.int .i64 ((1+(bK u.ts).length:Nat):Int),.slice u.ka u.ts.length u.kc])]::u.KB::[(i4,.cells false [.int .i64 U.aB,.slice ka kn kc])]::[(i3,.cells false [.int .i64 c.node,.int .i64 c.pack,.int .i64 c.r0,.int .i64 c.r1,.int .i64 c.r2,.int .i64 c.r3,.pointer none])]::((p.li,.cells false [.slice p.na p.nn p.nc,.int .i64 p.root,.int .i64 p.most,.slice (some ⟨p.lo,0,none⟩) p.nn p.lc,.map (some p.is),.map (some p.iw),.slice r.qa r.qn r.qc])::r.qB)::[(p.lo,.cells false r.vs)]::r.bs::[(p.is,.map r.se)]::[(p.iw,.map r.we)]::r.M2::own)
  (λj u G=>cb jU G u.ka u.ts.length u.kc u.KB u.ps/\lT G u.ps u.ts/\u.ts.length=j/\(bK u.ts).length<=j*5000/\∀i,i<j->∃k r t,U.kids[i]?=some k/\c.cl[i]?=some r/\(s.lists k)[r]?=some t/\u.ts[i]?=some t) kn ⟨none,0,[],[],[]⟩
  Z Z Z Z Z Z Z Z Z zo rfl rfl (λ_=>rfl) (λ_=>rfl) sM (ah.flat (sh _)) ⟨cb.cK _ _,.nil,rfl,If _,λi hi=>by omega⟩ ?_ ?_
 ·intro j u F1 af hj hP;obtain⟨hb,hS,a4,bx,ag⟩:=hP;have g:=hl.mono af;have b0:=bv.mono af;refine gz ?_;refine WT.bh hT b0 Z Z Z Z Z Z Z Z Z zo (λk hk b9 ep f7 f8 c7 f9 ga a5=>?_);obtain rfl:c7=_:=a5;have al:j<4:=by omega
  obtain⟨I,J⟩:∃I,c.cl[j]?=some I:=⟨_,gE (by show j<4;exact al)⟩;have es:=c2 I (gM J);have gd:k<Ns.length:=hkid.2 k (gM hk);obtain⟨ps,b3⟩:∃ps,r.qD[k]?=some ps:=⟨_,gE (by have:=hl.uq;omega)⟩;obtain⟨va,vn,vc,VB,b1,b2,b4,c8,a6,ey⟩:=g.rows.split b3;have b5:=g.trees k ps b3;have gm:=a6.len;have e0:=b5.len;refine gz ?_;refine WT.vO (j:=j) (s:=1) (len:=4) hT Z Z Z Z Z Z Z Z Z al (WT.loadAt hT 3 Z Z Z Z Z Z me Z Z (qm J) (gz ?_));refine WT.cH (j:=k) (s:=1) hT Z Z Z Z Z Z Z Z Z zo ?_
  refine WT.loadAt hT 5 Z Z Z Z Z Z me Z Z (v:=.slice va vn vc) (by rw[AI,Tp];exact b4) (gz ?_);refine AW.cond Z (λhc=>?_) (λhc=>?_)
  ·have hc:vn<=I:=by simp at hc;omega
   have a7:mW s.lists U.kids c.cl=some (k,I):=IQ (j:=j) (λi hi=>by
    obtain⟨k',r',t,h1,h2,h3,_⟩:=ag i hi;exact⟨k',r',t,h1,h2,h3⟩) hk J (zE zo)
   obtain⟨xa,xn,xc,WB,W1,W2,df,b6,ca,cc,_⟩:=g.ws.slot g.wn (k,I);have dk:=hI.Ov (k,I);rw[g.wg] at dk;have g5:=ca.len;rw[b6];refine AW.le (ah.cons _ (ah.cons _ (ah.cons _ (ah.cons _ (ah.cons _ (ah.cons _ (ah.cons _ (ah.cons _ (ah.cons _ (nV W1 WB W2 own)))))))))) (gz ?_);refine WT.vO (j:=j) (s:=1) (len:=4) hT Z Z Z Z Z Z Z Z Z al (WT.loadAt hT 3 Z Z Z Z Z Z me Z Z (qm J) (gz ?_));refine WT.az hT Z Z Z Z Z Z (λi8 g6=>?_);refine gz ?_;refine AW.draw (ps:=[(3,6),(4,6)]) Z Z (gz ?_)
   refine WT.aR hT Z Z Z Z Z Z Z Z Z Z Z Z Z Z (λi62 e6=>?_);refine WT.OK Lk (key:=(k,I)) hT 10 0 g.we Z Z Z Z Z Z Z Z Z Z Z (λ_=>rfl) (λ_=>rfl) (λg7 st he=>?_);rw[df];refine gz ?_;refine WT.aZ (ys:=[c]) hT 12 ca Z (λ_=>rfl) Z Z Z Z Z Z Z Z Z Z Z (λh0 s0=>aN hT s0 0 Z Z Z Z) (aG.single (R:=KN) (x:=c) rfl) Z (by decide) fj (λa3 c3 B3 ab=>?_);refine gz ?_;refine WT.Nc Lk 10 0 he Z Z Z Z Z Z Z Z (λ_=>rfl) (λ_=>rfl) (λdr cf=>?_);refine gz ?_;refine⟨OG,?_⟩;obtain⟨ds,ch,cj⟩:=cc a3 (xn+1) c3 B3 _ ab
   have ac:xC (bW Ns) s c={ s with waits:=λx=>if x=(k,I) then s.waits (k,I)++[c] else s.waits x }:=by
    unfold xC;simp only[aa,a7]
   refine AW.le (ah.trans (fO p ⟨r.qa,r.qn,r.qc,r.qB,r.Q,r.vs,r.bs,r.qD,r.se,r.sm,dr,cE r.wm (k,I) (.slice a3 (xn+1) c3),W1++(B3++W2),ds⟩ own) (ah.skip _ (ah.skip _ (ah.skip _ (ah.skip _ (ah.skip _ (ah.skip _ (ah.cons _ (ah.cons _ (ah.cons _ (ah.cons _ (ah.cons _ (uX W1 B3 W2 own))))))))))))) (AW.ret ⟨_,[_],rfl,bF,_,rfl,_,rfl,?_⟩);rw[ac]
   exact⟨g.nodes,g.q,g.qp,g.qh,g.rows,g.uq,g.trees,g.se,g.sl,cf,BV g.wn,ch,λx=>by
    show (if x=(k,I) then s.waits (k,I)++[c] else s.waits x)=_;rw[cj x,g.wg,g.wg]⟩
  ·have hc:I<vn:=by simp at hc;omega
   obtain⟨px,av⟩:∃px,ps[I]?=some px:=⟨_,gE zo⟩;obtain⟨tt,a9⟩:∃tt,(s.lists k)[I]?=some tt:=⟨_,gE zo⟩;have an:=b5.at_ av a9;have g8:=hI.small k tt (gM a9);refine gz ?_;refine WT.cH (j:=k) (s:=1) hT Z Z Z Z Z Z Z Z Z zo (WT.loadAt hT 5 Z Z Z Z Z Z me Z Z (v:=.slice va vn vc) (by rw[AI,Tp];exact b4) (gz ?_));refine WT.vO (j:=j) (s:=1) (len:=4) hT Z Z Z Z Z Z Z Z Z al (WT.loadAt hT 3 Z Z Z Z Z Z me Z Z (qm J) (WT.rp hT a6.gb Z Z Z Z Z Z Z Z Z hc (λb1 d0=>?_)))
   refine WT.Ft (x:=px) hT 6 a6.gb d0 av Z Z Z Z Z Z (λz hz=>by rw[c8];exact Tf _ (Te _ hz)) Z Z Z (λv hv=>?_);obtain rfl:v=_:=(UI.1 hv);refine gz ?_;refine WT.aR hT Z Z Z Z Z Z Z Z Z Z Z Z Z Z (λi9 g9=>?_);refine WT.aZ (ys:=[px]) hT 2 hb Z (λ_=>rfl) Z Z Z Z Z Z Z Z Z Z Z (λh0 s0=>aN hT s0 0 Z Z Z Z) (aG.single (R:=jU) (x:=px) rfl) Z (by decide) fj (λa3 c3 B3 ab=>?_);have cn:=an;cases an with
   | @mk _ tr tm P ta tn tc ha g1 g2 g3=>
   refine MM ?_;have ON:(bK (u.ts++[Tree.mk tr tm P])).length=(bK u.ts).length+(Tree.mk tr tm P).pre.length:=by
    rw[uR];simp[bK]
   refine⟨⟨a3,c3,B3,u.ps++[px],u.ts++[Tree.mk tr tm P]⟩,sM,?_,by show cb jU F1 a3 (u.ts++[_]).length c3 B3 _;rw[sj];exact ab,lT.app hS (.cons cn .nil),by show (u.ts++[_]).length=j+1;simp[a4],by show (bK (u.ts++[_])).length<=_;rw[ON];omega,λi hi=>?_⟩
   ·show ah ([(i5,aJ.cells false [.int .i64 U.aB,.int .i64 0,.int .i64 ((1+(bK (u.ts++[Tree.mk tr tm P])).length:Nat):Int),.slice a3 (u.ts++[Tree.mk tr tm P]).length c3])]::B3::_) _;rw[ON,sj,<-UJ];exact ah.skip _ oR
   ·show ∃k r t,_/\_/\_/\(u.ts++[Tree.mk tr tm P])[i]?=some t;rcases IN i j with h1 | h1
    ·obtain⟨k',r',t',e1,e2,e3,e4⟩:=ag i h1;exact⟨k',r',t',e1,e2,e3,by rw[AT zo];exact e4⟩
    ·obtain rfl:i=j:=by omega
     exact⟨k,I,_,hk,J,a9,by rw[OF zo,a4,Ua];rfl⟩
 ·intro u F1 af hP;obtain⟨hb,hS,a4,bx,ag⟩:=hP;have g:=hl.mono af;have hd:=hb.len;have ad:pick s.lists U.kids c.cl=some u.ts:=xU zo λi k hk=>by
   obtain⟨k',r',t',e1,e2,e3,e4⟩:=ag i (by have:=(gS hk).1;omega);rw[hk] at e1;cases e1;exact⟨r',t',e2,e3,e4⟩
  have ac:xC (bW Ns) s c={ s with q:=s.q++[(c,.mk U.aB 0 u.ts)] }:=by
   unfold xC;simp only[aa,Jg ad,ad]
  have ax:(Tree.mk U.aB 0 u.ts).pre.length=1+(bK u.ts).length:=by
   show (_::bK u.ts).length=_;rw[IT,Vi]
  refine gz ?_;refine AW.cond Z (λh=>?_) (λ_=>?_)
  ·exfalso;simp at h
  refine gz ?_;refine WT.aw 0 Z Z (λF2 ba d6=>?_);refine WT.aw 1 Z Z (λF3 ao ab=>?_);have cp:=(hb.mono ba).frozen ao ab;have cs:=ao _ _ (d6 i5 _ me);have an:Sh F3 i5 (.mk U.aB 0 u.ts):=.mk (by rw[ax];exact cs) cp (hS.mono (ba.trans ao));have bb:=(g.mono ba).mono ao;refine WT.sy hT Z Z Z Z Z Z (gz ?_);refine WT.sy hT Z Z Z Z Z Z ?_
  refine WT.iA 4 Tryz.func148 Z Z Z Z Z Z Z (λ_=>rfl) (H4 F3 (PE p) bb.q zo bb.qh (x:=(c,.mk U.aB 0 u.ts)) (l:=gU c (.pointer (some ⟨i5,0,none⟩))) ⟨i5,rfl,an,by rw[ax];omega⟩) (λF4 v B4 d7 hv=>?_);obtain⟨a',c',B5,Q2,rfl,d8,d9,ea⟩:=hv;refine WT.le (ah.trans (fO p ⟨a',r.qn+1,c',B5,Q2,r.vs,r.bs,r.qD,r.se,r.sm,r.we,r.wm,r.M2,r.ws⟩ own) (ah.skip _ (ah.skip _ (ah.skip _ (ah.skip _ oR))))) (gz ?_);have C:=bb.mono d7;refine⟨_,[_],rfl,bF,_,rfl,_,rfl,?_⟩;rw[ac]
  exact⟨C.nodes,d8,d9.trans (C.qp.append_right _),ea,C.rows,C.uq,C.trees,C.se,C.sl,C.we,C.wn,C.ws,C.wg⟩
end Go.Proofs.D