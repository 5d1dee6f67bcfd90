/-
  Walks: what functions of the program do, over the abstract machine.
-/
import Derived.Test.YtmbdmfjijofmmaaGreatDoorWk5
set_option linter.unusedVariables false
set_option maxRecDepth 20000
set_option maxHeartbeats 0
open Go Go.Abs Go.Proofs Go.Proofs.D
namespace Go.Proofs.D
structure QW where
 j:Nat
 B:List (Nat×aC)
 Q:List (aO×Tree)
theorem Ig{L:LB}{F:aw}{a:Option Addr}{n c:Nat}{B:List (Nat×aC)}{Q:List (aO×Tree)}(f:GB w5 F a n c B Q){i k:Nat}{x y:aO×Tree}(hi:Q[i]?=some x)(hk:Q[k]?=some y)(G:aw)(g:aw.le F G)(j:∀i b,(i,b)∈lB L a n c B->G i=some b) :
  Abs.Spec CC 301 [.slice a n c,.int .i64 (i:Nat),.int .i64 (k:Nat)] G [] λ_ v o=>o=[]/\∃b,v=.bool b/\(b=true↔qJ x.2 y.2):=
 GJ G (f.arr g λi b hm=>j i b (ma _ hm)) hi hk
theorem J0(F:aw)(L:LB){a:Option Addr}{n c:Nat}{B:List (Nat×aC)}{Q:List (aO×Tree)}(hq:GB w5 F a n c B Q)(hn:n<=1000000000000){j:Nat}(hj:j<n)(hu:Dj Q j) :
  Abs.Spec CC 268 [qI L,.int .i64 (j:Nat)] F [lB L a n c B] λF' v o=>∃B',o=[B']/\∃P I,B'=lB L a n c P/\GB w5 F' a n c P I/\I.Perm Q/\iY I I.length:=by have ag:=hq.len;unfold qI BO;refine Abs.Spec.fn (n:=23) Tryz.func268 rfl rfl λown=>?_;refine AW.block (AW.cr (S:=QW) (λs=>[(1,.int .i64 (s.j:Nat))]) (λs=>lB L a n c s.B::own) (λs G=>GB w5 G a n c s.B s.Q/\s.Q.Perm Q/\s.j<n/\Dj s.Q s.j) (λs=>s.j) ⟨j,B,Q⟩ sM oR ⟨hq,ri _,hj,hu⟩ ?_);intro s F1 an hP;obtain⟨t,f,ap,g⟩:=hP;have ar:=t.len;rcases Sd s.j with h0 | h0;{rw[h0] at g |-;refine AW.block (aq ?_);refine WT.Qs (x:=-1) (y:=2) Z Z Z Z Z Z (by decide) (aq ?_);refine AW.cond Z (λ_=>?_) (λh=>(by cases h));refine AW.exit ⟨_,[_],rfl,bw,_,rfl,s.B,s.Q,rfl,t,f,g.stop (.inl rfl)⟩};{obtain⟨x,l⟩:∃x,s.Q[(s.j-1) / 2]?=some x:=⟨_,gE zo⟩;obtain⟨y,r⟩:∃y,s.Q[s.j]?=some y:=⟨_,gE zo⟩;refine AW.block (ai ?_);refine WT.EH 2 Z Z Z Z Z Z (by decide) zo (ai ?_);refine WT.dk (v':=.bool false) 11 Z (by congr 1;simp;omega) (ai ?_);refine WT.jo 0 Tryz.func301 Z Z Z Z Z Z Z (λh R=>dU p8 Z Z (aR (R.has (p:=0) Z me) (bh hT rfl))) Z (λG hG U=>Ig t r l G hG U) (λv hv=>?_);obtain⟨b,rfl,C⟩:=hv;refine ai ?_;refine AW.cond Z (λJ=>?_) (λJ=>?_);{have i:¬qJ y.2 x.2:=λh=>by{rw[C.2 h] at J;cases J};refine AW.exit ⟨_,[_],rfl,bw,_,rfl,s.B,s.Q,rfl,t,f,g.stop (.inr ?_)⟩;rw[cm l,cm r];exact(pC _ _).resolve_right i};{have i:qJ y.2 x.2:=C.1 (by simpa using J);refine ai ?_;refine WT.mn 0 Tryz.func302 Z Z Z Z Z Z Z (λh R=>dU pg Z Z (aR (R.has (p:=0) Z me) (bh hT rfl))) Z (λ_=>rfl) (nv F1 L t l r) (λF2 v P ax hv=>?_);obtain⟨B3,rfl,ab⟩:=hv;refine ai ?_;refine⟨⟨(s.j-1) / 2,B3,(s.Q.set ((s.j-1) / 2) y).set s.j x⟩,by show (s.j-1) / 2<s.j;omega,sM,c7,ab,(nz l r).trans f,by show (s.j-1) / 2<n;omega,g.step h0 l r (by rw[cm l,cm r];exact i)⟩}}
theorem PM{p:Prop} (h:p:=by{refine ai ?_;refine WT.jo 0 Tryz.func301 Z Z Z Z Z Z Z (λh s0=>dU p8 Z Z (aR (s0.has (p:=0) Z me) (bh hT rfl))) Z (λG hG hBG=>Ig hb hy1 hx G hG hBG) (λv hv=>?_);obtain⟨b2,rfl,hlt2⟩:=hv;refine ai ?_;refine AW.cond Z (λhd=>?_) (λhd=>?_);{have hb0:¬qJ y1.2 x.2:=λh=>by{rw[hlt2.2 h] at hd;cases hd};refine AW.exit ?_;refine ai ?_;refine AW.ret ⟨_,[_],⟨_,_,rfl,rfl,rfl⟩,bw,_,rfl,s.B,s.Q,rfl,hb,hperm,hu1.stop (λk h1 h2 h3=>?_),hsame⟩;refine kv ?_ (hmin k h1 h2 h3);rw[cm hx,cm hy1];exact(pC _ _).resolve_right hb0};{have hb0:qJ y1.2 x.2:=hlt2.1 (by simpa using hd);refine ai ?_;refine WT.mn 0 Tryz.func302 Z Z Z Z Z Z Z (λh s0=>dU pg Z Z (aR (s0.has (p:=0) Z me) (bh hT rfl))) Z (λ_=>rfl) (nv F1 L hb hx hy1) (λF2 v B2 hF2 hv=>?_);obtain⟨B3,rfl,hB3⟩:=hv;refine ai ?_;refine⟨⟨2*s.j+1,B3,(s.Q.set s.j y1).set (2*s.j+1) x⟩,by show m-(2*s.j+1)<m-s.j;omega,sM,c7,hB3,(nz hx hy1).trans hperm,.inl (by show 2*s.j+1<m;omega),hu1.step zo zo zo zo hx hy1 (by rw[cm hx,cm hy1];exact hb0) hmin,λi hi=>?_⟩;show ((s.Q.set s.j y1).set (2*s.j+1) x)[i]?=Q[i]?;rw[tj zo,tj zo];exact hsame i hi}}):p:=h
theorem FU(F:aw)(L:LB){a:Option Addr}{n c m:Nat}{B:List (Nat×aC)}{Q:List (aO×Tree)}(I:GB w5 F a n c B Q)(hn:n<=1000000000000)(hm:m<=n)(hu:ou Q 0 m) :
  Abs.Spec CC 216 [qI L,.int .i64 0,.int .i64 (m:Nat)] F [lB L a n c B] λP v o=>∃J,o=[J]/\∃B2 C,J=lB L a n c B2/\GB w5 P a n c B2 C/\C.Perm Q/\iY C m/\∀i,m<=i->C[i]?=Q[i]?:=by have R:=I.len;unfold qI BO;refine Abs.Spec.fn (n:=48) Tryz.func216 rfl rfl λown=>?_;refine aq ?_;refine AW.block (AW.cr (S:=QW) (λs=>[(7,.int .i64 (s.j:Nat))]) (λs=>lB L a n c s.B::own) (λs G=>GB w5 G a n c s.B s.Q/\s.Q.Perm Q/\(s.j<m\/s.j=0)/\ou s.Q s.j m/\∀i,m<=i->s.Q[i]?=Q[i]?) (λs=>m-s.j) ⟨0,B,Q⟩ sM oR ⟨I,ri _,.inr rfl,hu,λ_ _=>rfl⟩ ?_);intro s F1 U hP;obtain⟨hb,hperm,ab,hu1,hsame⟩:=hP;have ac:=hb.len;refine AW.block (ai ?_);refine WT.split 18 Z (λl=>?_) (λl=>?_);{have l:m<=2*s.j+1:=by{simp at l;omega};refine ai ?_;refine AW.cond Z (λ_=>?_) (λh=>(by cases h));refine AW.exit (ai ?_);refine AW.ret ⟨_,[_],⟨_,_,rfl,rfl,rfl⟩,bw,_,rfl,s.B,s.Q,rfl,hb,hperm,hu1.stop (λk h1 h2 h3=>by omega),hsame⟩};have l:2*s.j+1<m:=by{simp at l;omega};have ad:2*s.j+1<s.Q.length:=by{omega};obtain⟨x,hx⟩:∃x,s.Q[s.j]?=some x:=⟨_,gE zo⟩;obtain⟨y1,hy1⟩:∃y,s.Q[2*s.j+1]?=some y:=⟨_,gE zo⟩;refine ai ?_;refine AW.cond Z (λh=>?_) (λ_=>?_);{exfalso;simp at h;omega};refine ai ?_;refine WT.split 28 Z (λr=>?_) (λr=>?_);{have r:2*s.j+2<m:=by{simp at r;omega};obtain⟨t,f⟩:∃y,s.Q[2*s.j+1+1]?=some y:=⟨_,gE zo⟩;refine ai ?_;refine WT.jo 0 Tryz.func301 Z Z Z Z Z Z Z (λh s0=>dU p8 Z Z (aR (s0.has (p:=0) Z me) (bh hT rfl))) Z (λG hG hBG=>Ig hb f hy1 G hG hBG) (λv hv=>?_);obtain⟨b,rfl,g⟩:=hv;refine ai ?_;refine AW.cond Z (λhd=>?_) (λhd=>?_);{have g:=g.1 hd;have hmin:∀k,0<k->k<m->(k-1) / 2=s.j->tR (cV s.Q (2*s.j+1+1)) (cV s.Q k):=λk h1 h2 h3=>by{have:k=2*s.j+1\/k=2*s.j+1+1:=by{omega};rcases this with rfl | rfl;{rw[cm f,cm hy1];exact .inl g};{exact gi _}};refine ai ?_;refine WT.jo 0 Tryz.func301 Z Z Z Z Z Z Z (λh s0=>dU p8 Z Z (aR (s0.has (p:=0) Z me) (bh hT rfl))) Z (λG hG hBG=>Ig hb f hx G hG hBG) (λv hv=>?_);obtain⟨b2,rfl,hlt2⟩:=hv;refine ai ?_;refine AW.cond Z (λhd=>?_) (λhd=>?_);{have hb0:¬qJ t.2 x.2:=λh=>by{rw[hlt2.2 h] at hd;cases hd};refine AW.exit (ai ?_);refine AW.ret ⟨_,[_],⟨_,_,rfl,rfl,rfl⟩,bw,_,rfl,s.B,s.Q,rfl,hb,hperm,hu1.stop (λk h1 h2 h3=>?_),hsame⟩;refine kv ?_ (hmin k h1 h2 h3);rw[cm hx,cm f];exact(pC _ _).resolve_right hb0};{have hb0:qJ t.2 x.2:=hlt2.1 (by simpa using hd);refine ai ?_;refine WT.mn 0 Tryz.func302 Z Z Z Z Z Z Z (λh s0=>dU pg Z Z (aR (s0.has (p:=0) Z me) (bh hT rfl))) Z (λ_=>rfl) (nv F1 L hb hx f) (λF2 v B2 hF2 hv=>?_);obtain⟨B3,rfl,hB3⟩:=hv;refine ai ?_;refine⟨⟨2*s.j+1+1,B3,(s.Q.set s.j t).set (2*s.j+1+1) x⟩,by show m-(2*s.j+1+1)<m-s.j;omega,sM,c7,hB3,(nz hx f).trans hperm,.inl (by show 2*s.j+1+1<m;omega),hu1.step zo zo zo zo hx f (by rw[cm hx,cm f];exact hb0) hmin,λi hi=>?_⟩;show ((s.Q.set s.j t).set (2*s.j+1+1) x)[i]?=Q[i]?;rw[tj zo,tj zo];exact hsame i hi}};{have g:¬qJ t.2 y1.2:=λh=>by{rw[g.2 h] at hd;cases hd};have hmin:∀k,0<k->k<m->(k-1) / 2=s.j->tR (cV s.Q (2*s.j+1)) (cV s.Q k):=λk h1 h2 h3=>by{have:k=2*s.j+1\/k=2*s.j+1+1:=by{omega};rcases this with rfl | rfl;{exact gi _};{rw[cm f,cm hy1];exact(pC _ _).resolve_right g}};exact PM}};{have r:m<=2*s.j+2:=by{simp at r;omega};have hmin:∀k,0<k->k<m->(k-1) / 2=s.j->tR (cV s.Q (2*s.j+1)) (cV s.Q k):=λk h1 h2 h3=>by{obtain rfl:k=2*s.j+1:=by{omega};exact gi _};refine ai ?_;refine AW.cond Z (λh=>(by cases h)) (λ_=>?_);exact PM}
theorem Hi(F:aw)(L:LB){a:Option Addr}{n c:Nat}{B:List (Nat×aC)}{Q:List (aO×Tree)}(U:GB w5 F a n c B Q)(hn:n<=900000000000)(hh:iY Q Q.length){x:aO×Tree}{l:List Value}(hx:w5.rel F l x) :
  Abs.Spec CC 241 [qI L,.iface 314 (.agg ⟨l⟩)] F [lB L a n c B] λF' v o=>∃B',o=[B']/\∃g i t f,B'=lB L g (n+1) i t/\GB w5 F' g (n+1) i t f/\f.Perm (Q++[x])/\iY f f.length:=by have C:=U.len;unfold qI BO;refine Abs.Spec.fn (n:=12) Tryz.func241 rfl rfl λown=>?_;refine aq ?_;refine WT.mn 0 Tryz.func305 Z Z Z Z Z Z Z (λh s0=>uY JF Z Z h) Z (λ_=>rfl) (Hg F L U zo hx) (λF2 v t ag r=>?_);obtain⟨g,i,B3,rfl,I⟩:=r;refine aq ?_;refine WT.jo (P:=λv=>v=.int .i64 ((n+1:Nat):Int)) 0 Tryz.func300 Z Z Z Z Z Z Z (λh s0=>dU Ew Z Z (aR (s0.has (p:=0) Z me) (bh hT rfl))) Z (λG hG al=>Bg G g (n+1) i) (λv r=>?_);subst r;refine aq ?_;refine WT.dk (v':=.int .i64 (n:Nat)) 10 Z (by congr 1;omega) (WT.cC 0 Tryz.func268 Z Z Z Z Z Z Z (λ_=>rfl) (J0 F2 L I zo (j:=n) zo (by rw[C];exact hh.push x)) (λF3 v B4 an r=>?_));obtain⟨B5,f,rfl,J,hp,R⟩:=r;refine aq ?_;exact⟨_,[_],rfl,bw,_,rfl,g,i,B5,f,rfl,J,hp,R⟩
theorem Ji(F:aw)(L:LB){a:Option Addr}{n c:Nat}{B:List (Nat×aC)}{Q:List (aO×Tree)}(hq:GB w5 F a (n+1) c B Q)(hn:n<=900000000000)(hh:iY Q Q.length) :
  Abs.Spec CC 177 [qI L] F [lB L a (n+1) c B] λF' v o=>∃B',o=[B']/\∃J f x l,B'=lB L a n c J/\GB w5 F' a n c J f/\Q.Perm (x::f)/\iY f f.length/\(∀y∈f,Df x.2 y.2)/\v=.iface 314 (.agg ⟨l⟩)/\w5.rel F' l x:=by have R:=hq.len;obtain⟨x,C⟩:∃x,Q[0]?=some x:=⟨_,gE zo⟩;obtain⟨y,U⟩:∃y,Q[n]?=some y:=⟨_,gE zo⟩;unfold qI BO;refine Abs.Spec.fn (n:=15) Tryz.func177 rfl rfl λown=>?_;refine aq ?_;refine WT.jo (P:=λv=>v=.int .i64 ((n+1:Nat):Int)) 0 Tryz.func300 Z Z Z Z Z Z Z (λh I=>dU Ew Z Z (aR (I.has (p:=0) Z me) (bh hT rfl))) Z (λG hG ao=>Bg G a (n+1) c) (λv j=>?_);subst j;refine aq ?_;refine WT.dk (v':=.int .i64 (n:Nat)) 8 Z (by congr 1;omega) (WT.mn 0 Tryz.func302 Z Z Z Z Z Z Z (λh I=>dU pg Z Z (aR (I.has (p:=0) Z me) (bh hT rfl))) Z (λ_=>rfl) (nv F L hq C U) (λF2 v J ar j=>?_));obtain⟨B3,rfl,aa⟩:=j;refine aq ?_;refine WT.dk (v':=.int .i64 (n:Nat)) 11 Z (by congr 1;omega) (WT.cC 0 Tryz.func216 Z Z Z Z Z Z Z (λ_=>rfl) (FU F2 L aa zo (m:=n) zo (hh.pop R C U)) (λF3 v B4 ax j=>?_));obtain⟨B5,f,rfl,r,hp,ab,t⟩:=j;have al:=r.len;have g:f[n]?=some x:=by{rw[t n (mc _),sj (by simp;omega)]};refine aq ?_;refine WT.mn 0 Tryz.func304 Z Z Z Z Z Z Z (λh I=>uY Mc Z Z h) Z (λ_=>rfl) (IZ F3 L r zo g) (λF4 v B6 ac j=>?_);obtain⟨rfl,l,rfl,hl⟩:=j;refine aq ?_;have i:Q.Perm (x::f.take n):=by{have e:f=f.take n++[x]:=by{have:=S0 n f;rw[OF zo] at this;have h2:=(gS g).2;rw[h2,Se zo] at this;exact this.symm};have p1:=(hp.trans (nz C U)).symm;rw[e] at p1;exact p1.trans (T0 (l₁:=f.take n) (l₂:=[x]))};refine AW.ret ⟨_,[_],⟨_,_,rfl,rfl,rfl⟩,bw,_,rfl,B5,f.take n,x,l,rfl,(r.mono ac).take (Nat.le_succ n),i,ab.take zo,λz hz=>?_,rfl,hl⟩;exact LK hh C (i.mem_iff.2 (ma _ hz))
end Go.Proofs.D
set_option linter.unusedVariables false
set_option maxRecDepth 20000
set_option maxHeartbeats 0
open Go Go.Abs Go.Proofs Go.Proofs.D
namespace Go.Abs
def sS(T:RT)(eq:Value->Value->Option Bool)(e s:Nat)(xs ys:List Value):List Nat->Option Bool
 | []=>some true
 | i::is=>match nQ T xs e (i*s),nQ T ys e (i*s) with
  | some a,some b=>match eq a b,sS T eq e s xs ys is with
   | some p,some q=>some (p&&q)
   | _,_=>none
  | _,_=>none
def Nv(C:Ctx)(T:RT):Nat->TypeId->Value->Value->Option Bool
 | 0,_,_,_=>none
 | n+1,t,x,y=>
  match rowOf T t with
  | some r=>match r.d,x,y with
   | .struct f,.agg ⟨xs⟩,.agg ⟨ys⟩=>bif C.flat t then mr T (Nv C T n) f xs ys else none
   | .array len e,.agg ⟨xs⟩,.agg ⟨ys⟩=>match dW T e with
    | some s=>sS T (Nv C T n e) e s xs ys (List.range len)
    | none=>none
   | .int _,.int k a,.int k' b=>if k=k' then some (a==b) else none
   | .pointer _,.pointer none,.pointer none=>some true
   | _,_,_=>none
  | none=>none
def pZ(T:RT)(ok:Value->Bool)(e s:Nat)(xs:List Value):List Nat->Bool
 | []=>true
 | i::is=>(match nQ T xs e (i*s) with
  | some a=>ok a
  | none=>false)&&pZ T ok e s xs is
def HO(T:RT):Nat->TypeId->Value->Bool
 | 0,_,_=>false
 | n+1,t,v=>
  match rowOf T t with
  | some r=>match r.d,v with
   | .struct f,.agg ⟨cs⟩=>kR T (HO T n) f cs
   | .array len e,.agg ⟨xs⟩=>match dW T e with
    | some s=>pZ T (HO T n e) e s xs (List.range len)
    | none=>false
   | .int _,v=>!bX v
   | .pointer _,v=>!bX v
   | _,_=>false
  | none=>false
section
variable {C:Ctx}{T:RT}(hT:aP C T=true)
include hT
theorem vV{f g:Value->Value->Option Bool}(he:∀x y b,f x y=some b->g x y=some b)(e s:Nat)(xs ys:List Value):∀(is:List Nat) (b:Bool),sS T f e s xs ys is=some b->ng C g e s xs ys is=some b
 | [],b,q=>q
 | i::is,b,q=>by{simp only[sS] at q;split at q;{rename_i u v hu j;split at q;{rename_i p r l o;cases q;unfold ng;rw[bh hT hu,bh hT j];simp only[he _ _ _ l];cases p with|true=>{simpa using vV he e s xs ys is r o}|false=>{rfl}};{cases q}};{cases q}}
theorem wL:∀(n:Nat) (t:TypeId) (x y:Value) (b:Bool),Nv C T n t x y=some b->qv C n t x y=some b
 | 0,_,_,_,_,q=>by cases q
 | n+1,t,x,y,b,q=>by{unfold Nv at q;split at q;{rename_i r g;split at q;{rename_i o xs ys f;obtain⟨l,hu,i⟩:=gr hT g f;cases j:C.flat t with|false=>{rw[j] at q;cases q}|true=>{rw[j] at q;simp only[xf] at q;unfold qv;simp only[hu,j,xf];rw[i] at q;exact mY hT (wL n) _ _ _ _ q}};{rename_i len e xs ys f;have hu:=lW hT g f;split at q;{rename_i s hs;unfold qv;simp only[hu,bI hT hs];exact vV hT (λx y b=>wL n e x y b) e s _ _ _ _ q};{cases q}};{rename_i p k a k' b' f;have hu:=tL hT g f;unfold qv;simp only[hu,fH];exact q};{rename_i f;have hu:=iB hT g f;cases q;unfold qv;simp only[hu,fH]};{cases q}};{cases q}}
theorem sf{f g:Value->Bool}(he:∀v,f v=true->g v=true)(e s:Nat)(xs:List Value):∀(is:List Nat),pZ T f e s xs is=true->mj C g e s xs is=true
 | [],_=>rfl
 | i::is,q=>by{simp only[pZ,ti] at q;obtain⟨j,l⟩:=q;unfold mj;rw[sf he e s xs is l,Uc];split at j;{rename_i a o;rw[bh hT o];exact he _ j};{cases j}}
theorem sX:∀(n:Nat) (t:TypeId) (v:Value),HO T n t v=true->eA C n t v=true
 | 0,_,_,q=>by cases q
 | n+1,t,v,q=>by{unfold HO at q;split at q;{rename_i r g;split at q;{rename_i l cs f;obtain⟨j,hu,i⟩:=gr hT g f;unfold eA;simp only[hu];rw[i] at q;exact lM hT (sX n) _ _ q};{rename_i len e xs f;split at q;{rename_i s hs;unfold eA;simp only[lW hT g f,bI hT hs];exact sf hT (λv=>sX n e v) e s _ _ q};{cases q}};{rename_i k f;unfold eA;rw[tL hT g f];simpa [rk] using q};{rename_i k f;unfold eA;rw[iB hT g f];simpa [rk] using q};{cases q}};{cases q}}
end
end Go.Abs
namespace Go.Proofs.D
theorem Ku(p q:aO):(((p.node:Int)==(q.node:Int))&&(((p.pack:Int)==(q.pack:Int))&&((((p.r0:Int)==(q.r0:Int))&&(((p.r1:Int)==(q.r1:Int))&&(((p.r2:Int)==(q.r2:Int))&&(((p.r3:Int)==(q.r3:Int))&&true))))&&(true&&true))))=decide (p=q):=by rw[Td];obtain⟨a,b,c,d,e,f⟩:=p;obtain⟨g,b',i,j,l,o⟩:=q;simp only[ti,S6,SC,aO.mk.injEq,Uw];omega
def Oq:oW CC 314 aO where
 key:=λp=>.agg ⟨gX p (.pointer none)⟩
 ok:=λp=>sX hT 8 _ _ rfl
 eq:=λp q=>by
  have h:qv CC 8 314 (.agg ⟨gX p (.pointer none)⟩) (.agg ⟨gX q (.pointer none)⟩)=some (decide (p=q)):=by
   rw[<-Ku];exact wL hT 8 _ _ _ _ rfl
  by_cases e:p=q
  ·exact .inl ⟨e,by rw[h];simp[e]⟩
  ·exact .inr ⟨e,by rw[h];simp[e]⟩
def Kx:oW CC 361 (Nat×Nat) where
 key:=λp=>.agg ⟨[.int .i64 p.1,.int .i64 p.2]⟩
 ok:=λp=>sX hT 8 _ _ rfl
 eq:=λp q=>by
  have h:qv CC 8 361 (.agg ⟨[.int .i64 p.1,.int .i64 p.2]⟩) (.agg ⟨[.int .i64 q.1,.int .i64 q.2]⟩)=some (decide (p=q)):=by
   rw[<-Pa];exact wL hT 8 _ _ _ _ rfl
  by_cases e:p=q
  ·exact .inl ⟨e,by rw[h];simp[e]⟩
  ·exact .inr ⟨e,by rw[h];simp[e]⟩
inductive iZ(F:aw):List Value->List (Nat×aC)->List (List Nat)->Prop
 | nil:iZ F [] [] []
 | cons {a:Option Addr} {n c:Nat} {B bs:List (Nat×aC)} {ps:List Nat} {vs:List Value} {nW:List (List Nat)}:cu jy F a n c B ps->iZ F vs bs nW->iZ F (.slice a n c::vs) (B++bs) (ps::nW)
theorem Oo{F G:aw}{cs:List Value}{ps:List Nat}(h:aF jy F cs ps):aF jy G cs ps:=by induction h with|nil=>exact .nil|cons h _ f=>{exact .cons h f}
theorem QC{F G:aw}{a:Option Addr}{n c:Nat}{B:List (Nat×aC)}{ps:List Nat}(h:cu jy F a n c B ps):cu jy G a n c B ps:=
 ⟨h.len,h.at_.imp id λ⟨i,cs,f,g,j,l,o⟩=>⟨i,cs,f,g,j,Oo l,o⟩⟩
theorem iZ.any{F G:aw}{vs:List Value}{bs:List (Nat×aC)}{nW:List (List Nat)}(h:iZ F vs bs nW):iZ G vs bs nW:=by induction h with|nil=>exact .nil|cons h _ f=>{exact .cons (QC h) f}
theorem iZ.len{F:aw}{vs:List Value}{bs:List (Nat×aC)}{nW:List (List Nat)}(h:iZ F vs bs nW):vs.length=nW.length:=by induction h with|nil=>rfl|cons _ _ f=>{simp[f]}
theorem iZ.one{F:aw}{vs:List Value}{bs:List (Nat×aC)}{nW:List (List Nat)}(h:iZ F vs bs nW):∀v∈vs,Go.Abs.one v=true:=by induction h with|nil=>{intro x hx;cases hx}|cons _ _ f=>{intro x hx;rcases IN.1 hx with rfl | hx;{rfl};{exact f x hx}}
theorem iZ.split{F:aw}{vs:List Value}{bs:List (Nat×aC)}{nW:List (List Nat)}(h:iZ F vs bs nW):∀{i:Nat} {ps:List Nat},nW[i]?=some ps->
  ∃a n c B p r,vs[i]?=some (.slice a n c)/\bs=p++(B++r)/\cu jy F a n c B ps/\
   ∀(g:Option Addr) (j l:Nat) (o:List (Nat×aC)) (f:List Nat),cu jy F g j l o f->iZ F (vs.set i (.slice g j l)) (p++(o++r)) (nW.set i f):=by induction h with|nil=>{intro i ps h;simp at h}| @cons a n c B bs C vs nW t I J=>{intro i ps hi;cases i with|zero=>{obtain rfl:C=ps:=by{simpa using hi};exact⟨a,n,c,B,[],bs,rfl,rfl,t,λg j l o f P=>(show iZ F (.slice g j l::vs) (o++bs) (f::nW) from .cons P I)⟩}|succ i=>{obtain⟨g,j,l,o,p,r,R,U,h3,h4⟩:=J (i:=i) (by simpa using hi);refine⟨g,j,l,o,B++p,r,by simpa using R,by rw[U,AS],h3,λa2 n2 c2 B2 p2 h5=>?_⟩;have:=iZ.cons t (h4 a2 n2 c2 B2 p2 h5);simpa [AS] using this}}
def JY:Ty aO where
 size:=7
 rel:=λ_ l c=>l=gX c (.pointer none)
 len:=λ_ _ _ h=>by rw[h];rfl
 one:=λ_ _ _ h=>by rw[h];rfl
 mono:=λ_ _ _ _ _ h=>h
theorem O4{F G:aw}{cs:List Value}{ps:List aO}(h:aF JY F cs ps):aF JY G cs ps:=by induction h with|nil=>exact .nil|cons h _ f=>{exact .cons h f}
theorem Pk{F G:aw}{a:Option Addr}{n c:Nat}{B:List (Nat×aC)}{ps:List aO}(h:cu JY F a n c B ps):cu JY G a n c B ps:=
 ⟨h.len,h.at_.imp id λ⟨i,cs,f,g,j,l,o⟩=>⟨i,cs,f,g,j,O4 l,o⟩⟩
inductive fu(F:aw):bS (Nat×Nat)->List (Nat×aC)->List ((Nat×Nat)×List aO)->Prop
 | nil:fu F [] [] []
 | cons {k:Nat×Nat} {a:Option Addr} {n c:Nat} {B bs:List (Nat×aC)} {cs:List aO} {m:bS (Nat×Nat)} {ws:List ((Nat×Nat)×List aO)}:cu JY F a n c B cs->fu F m bs ws->fu F ((k,.slice a n c)::m) (B++bs) ((k,cs)::ws)
theorem fu.any{F G:aw}{m:bS (Nat×Nat)}{bs:List (Nat×aC)}{ws:List ((Nat×Nat)×List aO)}(h:fu F m bs ws):fu G m bs ws:=by induction h with|nil=>exact .nil|cons h _ f=>{exact .cons (Pk h) f}
def eX:List ((Nat×Nat)×List aO)->Nat×Nat->List aO
 | [],_=>[]
 | (k,cs)::ws,w=>if w=k then cs else eX ws w
theorem IK{F:aw}{m:bS (Nat×Nat)}{bs:List (Nat×aC)}{ws:List ((Nat×Nat)×List aO)}(h:fu F m bs ws){w:Nat×Nat}(hw:∀p∈m,p.1≠w):eX ws w=[]:=by induction h with|nil=>rfl|cons _ _ f=>{unfold eX;rw[mb λe=>hw _ me e.symm];exact f λp g=>hw p (ma _ g)}
theorem fu.split{F:aw}{m:bS (Nat×Nat)}{bs:List (Nat×aC)}{ws:List ((Nat×Nat)×List aO)}(h:fu F m bs ws)(hn:(m.map (·.1)).Nodup)(w:Nat×Nat) :
  (Abs.look m w=none/\eX ws w=[]/\j4 m w=m/\∀(a:Option Addr) (n c:Nat) (B:List (Nat×aC)) (cs:List aO),cu JY F a n c B cs->∃f,fu F (cy m w (.slice a n c)) (bs++B) f/\∀x,eX f x=if x=w then cs else eX ws x)\/
  (∃a n c B J P,Abs.look m w=some (.slice a n c)/\bs=J++(B++P)/\cu JY F a n c B (eX ws w)/\
   (∀(j:Option Addr) (l o:Nat) (t:List (Nat×aC)) (g:List aO),cu JY F j l o t g->∃f,fu F (cy m w (.slice j l o)) (J++(t++P)) f/\∀x,eX f x=if x=w then g else eX ws x)/\
   ∃f,fu F (j4 m w) (J++P) f/\∀x,eX f x=if x=w then [] else eX ws x):=by induction h with|nil=>exact .inl ⟨rfl,rfl,rfl,λa n c B cs I=>⟨[(w,cs)],by simpa [cy] using fu.cons (k:=w) I .nil,λx=>by simp[eX]⟩⟩| @cons k a n c B bs cs m ws I hW ih=>{simp only[y2,Ss] at hn;by_cases e:w=k;{subst e;refine .inr ⟨a,n,c,B,[],bs,by simp[Abs.look],rfl,by simpa [eX] using I,λj l o t g r=>⟨(w,g)::ws,?_,λx=>?_⟩,ws,?_,λx=>?_⟩;{have:cy ((w,Value.slice a n c)::m) w (.slice j l o)=(w,.slice j l o)::m:=by{simp[cy]};rw[this];exact(show fu F ((w,.slice j l o)::m) (t++bs) ((w,g)::ws) from .cons r hW)};{unfold eX;by_cases i:x=w;{rw[nw i,nw i]};{rw[mb i,mb i,mb i]}};{have:j4 ((w,Value.slice a n c)::m) w=m:=by{simp[j4]};rw[this];exact hW};{by_cases i:x=w;{rw[nw i,i];exact IK hW λp hp e2=>hn.1 (tx.2 ⟨p,hp,e2⟩)};{rw[mb i];show eX ws x=eX ((w,cs)::ws) x;unfold eX;rw[mb i];cases ws<;>rfl}}};{have hg:∀(ws:List ((Nat×Nat)×List aO)) (cs:List aO),eX ((k,cs)::ws) w=eX ws w:=λws cs=>by{show (if w=k then cs else eX ws w)=_;rw[mb e]};have C:∀(f:List ((Nat×Nat)×List aO)) (v:List aO),(∀x,eX f x=if x=w then v else eX ws x)->∀x,eX ((k,cs)::f) x=if x=w then v else eX ((k,cs)::ws) x:=λf v h x=>by{show (if x=k then cs else eX f x)=if x=w then v else (if x=k then cs else eX ws x);by_cases i:x=k;{rw[nw i,mb (λe2=>e (e2.symm.trans i)),nw i]};{rw[mb i,h x,mb i]}};rcases ih hn.2 with ⟨h1,h2,af,h3⟩ | ⟨a2,n2,c2,B2,J,P,h1,h2,h3,h4,f,R,U⟩;{refine .inl ⟨by simp only[Abs.look];rw[mb e];exact h1,by rw[hg];exact h2,by simp only[j4];rw[mb e,af],λj l o t g r=>?_⟩;obtain⟨f,R,U⟩:=h3 j l o t g r;refine⟨(k,cs)::f,?_,C f g U⟩;have:cy ((k,Value.slice a n c)::m) w (.slice j l o)=(k,.slice a n c)::cy m w (.slice j l o):=by{simp only[cy];rw[mb e]};rw[this,AS];exact .cons I R};{refine .inr ⟨a2,n2,c2,B2,B++J,P,by simp only[Abs.look];rw[mb e];exact h1,by rw[h2,AS],by rw[hg];exact h3,λj l o t g r=>?_,(k,cs)::f,?_,C f [] U⟩;{obtain⟨f,R,U⟩:=h4 j l o t g r;refine⟨(k,cs)::f,?_,C f g U⟩;have:cy ((k,Value.slice a n c)::m) w (.slice j l o)=(k,.slice a n c)::cy m w (.slice j l o):=by{simp only[cy];rw[mb e]};rw[this,AS];exact .cons I R};{have:j4 ((k,Value.slice a n c)::m) w=(k,.slice a n c)::j4 m w:=by{simp only[j4];rw[mb e]};rw[this,AS];exact .cons I R}}}}
def bQ(Ns:List Node):Fo where
 n:=Ns.length
 leaf:=λv=>match Ns[v]? with
  | some x=>if x.key.sym.term=true then some x.key.sym.n else none
  | none=>none
 cg:=λv=>match Ns[v]? with
  | some x=>x.cg
  | none=>[]
structure LP where
 li:Nat
 na:Option Addr
 nn:Nat
 nc:Nat
 root:Nat
 most:Nat
 lo:Nat
 lc:Nat
 is:Nat
 iw:Nat
structure LR where
 qa:Option Addr
 qn:Nat
 qc:Nat
 qB:List (Nat×aC)
 Q:List (aO×Tree)
 vs:List Value
 bs:List (Nat×aC)
 nW:List (List Nat)
 se:List (Value×Value)
 sm:bS aO
 we:List (Value×Value)
 wm:bS (Nat×Nat)
 MF:List (Nat×aC)
 ws:List ((Nat×Nat)×List aO)
def Pc(p:LP):LB:=⟨p.li,.slice p.na p.nn p.nc,.int .i64 p.root,.int .i64 p.most,.slice (some ⟨p.lo,0,none⟩) p.nn p.lc,.map (some p.is),.map (some p.iw),rfl,rfl,rfl,rfl,rfl,rfl⟩
def zP(p:LP)(r:LR):List (Nat×aC):=lB (Pc p) r.qa r.qn r.qc r.qB++([(p.lo,.cells false r.vs)]++(r.bs++([(p.is,.map r.se)]++([(p.iw,.map r.we)]++r.MF))))
structure zJ(p:LP)(Ns:List Node)(F:aw)(r:LR)(s:oI):Prop where
 nodes:a7 vj F p.na p.nn p.nc Ns
 q:GB w5 F r.qa r.qn r.qc r.qB r.Q
 qp:r.Q.Perm s.q
 qh:iY r.Q r.Q.length
 rows:iZ F r.vs r.bs r.nW
 td:r.nW.length=p.nn
 trees:∀(v:Nat) (ps:List Nat),r.nW[v]?=some ps->k8 F ps (s.lists v)
 se:alive r.se=aK Oq r.sm
 sl:∀c,Abs.look r.sm c=if c∈s.seen then some (.bool true) else none
 we:alive r.we=aK Kx r.wm
 wn:(r.wm.map (·.1)).Nodup
 ws:fu F r.wm r.MF r.ws
 wg:∀w,s.waits w=eX r.ws w
theorem zJ.mono{p:LP}{Ns:List Node}{F G:aw}{r:LR}{s:oI}(h:zJ p Ns F r s)(f:aw.le F G):zJ p Ns G r s:=
 ⟨h.nodes.mono f,h.q.mono f,h.qp,h.qh,h.rows.any,h.td,λv ps g=>(h.trees v ps g).mono f,h.se,h.sl,h.we,h.wn,h.ws.any,h.wg⟩
theorem nr(p:LP)(r:LR)(own:bH):ah (((p.li,.cells false [.slice p.na p.nn p.nc,.int .i64 p.root,.int .i64 p.most,.slice (some ⟨p.lo,0,none⟩) p.nn p.lc,.map (some p.is),.map (some p.iw),.slice r.qa r.qn r.qc])::r.qB)::[(p.lo,.cells false r.vs)]::r.bs::[(p.is,.map r.se)]::[(p.iw,.map r.we)]::r.MF::own) (zP p r::own):=
 ah.flat (Tz (by simp[zP,lB,Pc,lN]))
theorem fM(p:LP)(r:LR)(own:bH):ah (zP p r::own) (((p.li,.cells false [.slice p.na p.nn p.nc,.int .i64 p.root,.int .i64 p.most,.slice (some ⟨p.lo,0,none⟩) p.nn p.lc,.map (some p.is),.map (some p.iw),.slice r.qa r.qn r.qc])::r.qB)::[(p.lo,.cells false r.vs)]::r.bs::[(p.is,.map r.se)]::[(p.iw,.map r.we)]::r.MF::own):=
 ah.flat (Tz (by simp[zP,lB,Pc,lN]))
theorem Inv.N0{f:Fo}{most:Nat}{s:oI}{done g ex:List aO}(h:Inv f most s done g ex):s.q.length<=s.seen.length:=by have:=pK (s.q.map (·.1)) s.seen h.H6 λc i=>by{obtain⟨x,j,rfl⟩:=tx.1 i;exact(h.xe x j).1};rwa [sh] at this
theorem Inv.NZ{f:Fo}{most:Nat}{s:oI}{done g ex:List aO}(h:Inv f most s done g ex)(w:Nat×Nat):(s.waits w).length<=s.seen.length:=
 pK (s.waits w) s.seen (h.FB w) λc i=>(h.p7 w c i).1
theorem HV{L:Nat->List Tree}:∀{ks rs:List Nat} {j k r:Nat},(∀i,i<j->∃k r t,ks[i]?=some k/\rs[i]?=some r/\(L k)[r]?=some t)->ks[j]?=some k->rs[j]?=some r->(L k)[r]?=none->mq L ks rs=some (k,r)
 | [],_,_,_,_,_,h,_,_=>by simp at h
 | _::_,[],_,_,_,_,_,h,_=>by simp at h
 | k0::ks,r0::rs,0,k,r,_,f,g,l=>by{obtain rfl:k0=k:=by{simpa using f};obtain rfl:r0=r:=by{simpa using g};unfold mq;simp only[l]}
 | k0::ks,r0::rs,j+1,k,r,P,f,g,l=>by{obtain⟨k',o,t,C,I,J⟩:=P 0 zo;obtain rfl:k0=k':=by{simpa using C};obtain rfl:r0=o:=by{simpa using I};unfold mq;simp only[J];exact HV (j:=j) (λi hi=>by{obtain⟨k',o,t,C,I,J⟩:=P (i+1) zo;exact⟨k',o,t,by simpa using C,by simpa using I,J⟩}) (by simpa using f) (by simpa using g) l}
theorem Il{L:Nat->List Tree}{ks rs:List Nat}{ts:List Tree}(h:pick L ks rs=some ts):mq L ks rs=none:=by cases hm:mq L ks rs with|none=>rfl|some w=>{obtain⟨i,j,l,o⟩:=j9 (k:=w.1) (r:=w.2) hm;obtain⟨r,t,f,g,_⟩:=(cI h).2 i _ j;rw[l] at f;cases f;rw[o] at g;cases g}
theorem fu.slot{F:aw}{m:bS (Nat×Nat)}{bs:List (Nat×aC)}{ws:List ((Nat×Nat)×List aO)}(h:fu F m bs ws)(R:(m.map (·.1)).Nodup)(w:Nat×Nat) :
  ∃a n c P r t,(Abs.look m w).getD (.slice none 0 0)=.slice a n c/\bs=r++(P++t)/\cu JY F a n c P (eX ws w)/\
   (∀(i:Option Addr) (j l:Nat) (o:List (Nat×aC)) (g:List aO),cu JY F i j l o g->∃f,fu F (cy m w (.slice i j l)) (r++(o++t)) f/\∀x,eX f x=if x=w then g else eX ws x)/\
   ∃f,fu F (j4 m w) (r++t) f/\∀x,eX f x=if x=w then [] else eX ws x:=by rcases h.split R w with ⟨C,p,I,J⟩ | ⟨a,n,c,B,U,b2,C,p,J,h4,h5⟩;{refine⟨none,0,0,[],bs,[],by rw[C];rfl,by simp,by rw[p];exact cu.dF _ _,λi j l o g hb=>?_,ws,by rw[I,R3];exact h,λx=>?_⟩;{rw[R3];exact J i j l o g hb};{split;{rename_i e;rw[e,p]};{rfl}}};{exact⟨a,n,c,B,U,b2,by rw[C];rfl,p,J,h4,h5⟩}
theorem m9(A B C:List (Nat×aC))(own:bH):ah ((A++C)::B::own) ((A++(B++C))::own):=by refine ah.flat ?_;simp only[So,AS];refine Uu A ?_;have:=(T0 (l₁:=B) (l₂:=C)).append_right own.flatten;simpa [AS] using this
theorem tU(A B C:List (Nat×aC))(own:bH):ah ((A++(B++C))::own) ((A++C)::B::own):=by refine ah.flat ?_;simp only[So,AS];refine Uu A ?_;have:=(T0 (l₁:=C) (l₂:=B)).append_right own.flatten;simpa [AS] using this
theorem o7{c:aO}{j r:Nat}{t:Value}(h:c.bV[j]?=some r):([.int .i64 c.node,.int .i64 c.pack,.int .i64 c.r0,.int .i64 c.r1,.int .i64 c.r2,.int .i64 c.r3,t]:List Value)[0+2+j*1]?=some (.int .i64 r):=by match j,h with| 0,h=>{simp[aO.bV] at h;subst h;rfl}| 1,h=>{simp[aO.bV] at h;subst h;rfl}| 2,h=>{simp[aO.bV] at h;subst h;rfl}| 3,h=>{simp[aO.bV] at h;subst h;rfl}| _+4,h=>{simp[aO.bV] at h}
structure RC where
 ka:Option Addr
 kc:Nat
 KB:List (Nat×aC)
 ps:List Nat
 ts:List Tree
theorem AE(F:aw){p:LP}{Ns:List Node}{r:LR}{s:oI}{c:aO}{done bl ex:List aO}(hl:zJ p Ns F r s)(hf:(bQ Ns).Good)(hI:Inv (bQ Ns) p.most s done (c::bl) ex)(hm:p.most<=1000)(cv:s.seen.length<=800000000000)(fc:Ns.length<=1000000) :
  Abs.Spec CC 215 [.pointer (some ⟨p.li,0,none⟩),.agg ⟨gX c (.pointer none)⟩] F [zP p r] λF' v o=>∃B',o=[B']/\∃r',B'=zP p r'/\zJ p Ns F' r' (wi (bQ Ns) s c):=by
 have fi:=hl.nodes.len;have ad:=hI.ok c (hI.uD c me);obtain⟨P,U⟩:=ad.pack;have cx:c.node<Ns.length:=ad.node;obtain⟨x,hx⟩:∃x,Ns[c.node]?=some x:=⟨_,gE cx⟩;have bo:x.cg[c.pack]?=some P:=by
  unfold eQ bQ at U;simpa [hx] using U
 have hkid:=hf.kids c.node ad.node P (gM U);have c0:∀r0∈c.bV,r0<=1000:=λr0 h0=>LN (ad.Ek r0 h0) hm;have fk:=hI.N0;have fl:r.qn<=800000000000:=by rw[hl.q.len,hl.qp.length_eq];omega
 unfold gX;refine Abs.Spec.fn (n:=120) Tryz.func215 rfl rfl λown=>?_;refine AW.seq (AW.fj ?_);refine WT.bZ Z Z Z Z Z Z (λi3 fo=>?_);refine WT.le (ah.cons _ (nr p r own)) (aq ?_);refine AW.draw (ps:=[(4,14),(6,14),(9,14),(11,14),(13,14)]) Z Z (aq ?_);refine WT.bk hT hl.nodes Z Z Z Z Z Z Z Z Z zo (λz hz b7 ee fr fs ft fv fx az=>?_);rw[hx] at hz;cases hz;obtain⟨pa,pn,pc,rfl,br⟩:=az;have eh:=br.len;refine aq ?_;refine WT.bk hT br Z Z Z Z Z Z Z Z Z (by have:=(gS bo).1;omega) (λz hz b8 em fy f0 f1 f2 f3 a0=>?_)
 rw[bo] at hz;cases hz;obtain⟨ka,kn,kc,rfl,bt,f4⟩:=a0;have eo:=bt.len;refine aq ?_;refine WT.aG hT Z Z Z Z Z Z (λi4 f5=>?_);refine aq ?_;refine⟨Ob,?_⟩;refine aq ?_;refine WT.bZ Z Z Z Z Z Z (λi5 f6=>?_);refine aq ?_
 refine AW.range (S:=RC) (λ_=>[]) (λu=>[(i5,.cells false [.int .i64 P.aB,.int .i64 0,.int .i64 ((1+(bT u.ts).length:Nat):Int),.slice u.ka u.ts.length u.kc])]::u.KB::[(i4,.cells false [.int .i64 P.aB,.slice ka kn kc])]::[(i3,.cells false [.int .i64 c.node,.int .i64 c.pack,.int .i64 c.r0,.int .i64 c.r1,.int .i64 c.r2,.int .i64 c.r3,.pointer none])]::((p.li,.cells false [.slice p.na p.nn p.nc,.int .i64 p.root,.int .i64 p.most,.slice (some ⟨p.lo,0,none⟩) p.nn p.lc,.map (some p.is),.map (some p.iw),.slice r.qa r.qn r.qc])::r.qB)::[(p.lo,.cells false r.vs)]::r.bs::[(p.is,.map r.se)]::[(p.iw,.map r.we)]::r.MF::own)
  (λj u G=>cu jy G u.ka u.ts.length u.kc u.KB u.ps/\k8 G u.ps u.ts/\u.ts.length=j/\(bT u.ts).length<=j*5000/\∀i,i<j->∃k r t,P.kids[i]?=some k/\c.bV[i]?=some r/\(s.lists k)[r]?=some t/\u.ts[i]?=some t) kn ⟨none,0,[],[],[]⟩
  Z Z Z Z Z Z Z Z Z zo rfl rfl (λ_=>rfl) (λ_=>rfl) sM (ah.flat (ri _)) ⟨cu.dF _ _,.nil,rfl,BY _,λi hi=>by omega⟩ ?_ ?_
 ·intro j u F1 ae hj hP;obtain⟨hb,hS,a1,bv,af⟩:=hP;have f:=hl.mono ae;have bx:=bt.mono ae;refine gU ?_;refine WT.bk hT bx Z Z Z Z Z Z Z Z Z zo (λk hk b9 es f7 f8 c5 f9 ga a2=>?_);obtain rfl:c5=_:=a2;have ag:j<4:=by omega
  obtain⟨C,I⟩:∃C,c.bV[j]?=some C:=⟨_,gE (by show j<4;exact ag)⟩;have et:=c0 C (gM I);have gd:k<Ns.length:=hkid.2 k (gM hk);obtain⟨ps,b0⟩:∃ps,r.nW[k]?=some ps:=⟨_,gE (by have:=hl.td;omega)⟩;obtain⟨va,vn,vc,VB,b1,b2,b3,c6,a4,e0⟩:=f.rows.split b0;have b4:=f.trees k ps b0;have gm:=a4.len;have e5:=b4.len;refine gU ?_;refine WT.uM (j:=j) (s:=1) (len:=4) hT Z Z Z Z Z Z Z Z Z ag (WT.loadAt hT 3 Z Z Z Z Z Z me Z Z (o7 I) (gU ?_));refine WT.cz (j:=k) (s:=1) hT Z Z Z Z Z Z Z Z Z zo ?_
  refine WT.loadAt hT 5 Z Z Z Z Z Z me Z Z (v:=.slice va vn vc) (by rw[yo,R9];exact b3) (gU ?_);refine AW.cond Z (λhc=>?_) (λhc=>?_)
  ·have hc:vn<=C:=by simp at hc;omega
   have a5:mq s.lists P.kids c.bV=some (k,C):=HV (j:=j) (λi hi=>by
    obtain⟨k',r',t,h1,h2,h3,_⟩:=af i hi;exact⟨k',r',t,h1,h2,h3⟩) hk I (D2 zo)
   obtain⟨xa,xn,xc,WB,W1,W2,dd,b5,b6,ca,_⟩:=f.ws.slot f.wn (k,C);have df:=hI.NZ (k,C);rw[f.wg] at df;have g5:=b6.len;rw[b5];refine AW.le (ah.cons _ (ah.cons _ (ah.cons _ (ah.cons _ (ah.cons _ (ah.cons _ (ah.cons _ (ah.cons _ (ah.cons _ (m9 W1 WB W2 own)))))))))) (gU ?_);refine WT.uM (j:=j) (s:=1) (len:=4) hT Z Z Z Z Z Z Z Z Z ag (WT.loadAt hT 3 Z Z Z Z Z Z me Z Z (o7 I) (gU ?_));refine WT.aG hT Z Z Z Z Z Z (λi8 g6=>?_);refine gU ?_;refine AW.draw (ps:=[(3,6),(4,6)]) Z Z (gU ?_)
   refine WT.aS hT Z Z Z Z Z Z Z Z Z Z Z Z Z Z (λi62 e7=>?_);refine WT.Of Kx (key:=(k,C)) hT 10 0 f.we Z Z Z Z Z Z Z Z Z Z Z (λ_=>rfl) (λ_=>rfl) (λg7 st he=>?_);rw[dd];refine gU ?_;refine WT.bu (ys:=[c]) hT 12 b6 Z (λ_=>rfl) Z Z Z Z Z Z Z Z Z Z Z (λh0 s0=>aT hT s0 0 Z Z Z Z) (aF.single (R:=JY) (x:=c) rfl) Z (by decide) gT (λa3 c3 B3 aa=>?_);refine gU ?_;refine WT.MP Kx 10 0 he Z Z Z Z Z Z Z Z (λ_=>rfl) (λ_=>rfl) (λdq cc=>?_);refine gU ?_;refine⟨Ob,?_⟩;obtain⟨ds,cf,ch⟩:=ca a3 (xn+1) c3 B3 _ aa
   have ab:wi (bQ Ns) s c={ s with waits:=λx=>if x=(k,C) then s.waits (k,C)++[c] else s.waits x }:=by
    unfold wi;simp only[U,a5]
   refine AW.le (ah.trans (fM p ⟨r.qa,r.qn,r.qc,r.qB,r.Q,r.vs,r.bs,r.nW,r.se,r.sm,dq,cy r.wm (k,C) (.slice a3 (xn+1) c3),W1++(B3++W2),ds⟩ own) (ah.skip _ (ah.skip _ (ah.skip _ (ah.skip _ (ah.skip _ (ah.skip _ (ah.cons _ (ah.cons _ (ah.cons _ (ah.cons _ (ah.cons _ (tU W1 B3 W2 own))))))))))))) (AW.ret ⟨_,[_],rfl,bw,_,rfl,_,rfl,?_⟩);rw[ab]
   exact⟨f.nodes,f.q,f.qp,f.qh,f.rows,f.td,f.trees,f.se,f.sl,cc,AF f.wn,cf,λx=>by
    show (if x=(k,C) then s.waits (k,C)++[c] else s.waits x)=_;rw[ch x,f.wg,f.wg]⟩
  ·have hc:C<vn:=by simp at hc;omega
   obtain⟨px,ap⟩:∃px,ps[C]?=some px:=⟨_,gE zo⟩;obtain⟨tt,a9⟩:∃tt,(s.lists k)[C]?=some tt:=⟨_,gE zo⟩;have al:=b4.at_ ap a9;have g8:=hI.small k tt (gM a9);refine gU ?_;refine WT.cz (j:=k) (s:=1) hT Z Z Z Z Z Z Z Z Z zo (WT.loadAt hT 5 Z Z Z Z Z Z me Z Z (v:=.slice va vn vc) (by rw[yo,R9];exact b3) (gU ?_));refine WT.uM (j:=j) (s:=1) (len:=4) hT Z Z Z Z Z Z Z Z Z ag (WT.loadAt hT 3 Z Z Z Z Z Z me Z Z (o7 I) (WT.wu hT a4.gb Z Z Z Z Z Z Z Z Z hc (λb1 d0=>?_)))
   refine WT.K7 (x:=px) hT 6 a4.gb d0 ap Z Z Z Z Z Z (λz hz=>by rw[c6];exact R8 _ (IT _ hz)) Z Z Z (λv hv=>?_);obtain rfl:v=_:=(Uj.1 hv);refine gU ?_;refine WT.aS hT Z Z Z Z Z Z Z Z Z Z Z Z Z Z (λi9 ha=>?_);refine WT.bu (ys:=[px]) hT 2 hb Z (λ_=>rfl) Z Z Z Z Z Z Z Z Z Z Z (λh0 s0=>aT hT s0 0 Z Z Z Z) (aF.single (R:=jy) (x:=px) rfl) Z (by decide) gT (λa3 c3 B3 aa=>?_);have ck:=al;cases al with
   | @mk _ tr tm J ta tn tc hd g1 g2 g3=>
   refine Q0 ?_;have Oi:(bT (u.ts++[Tree.mk tr tm J])).length=(bT u.ts).length+(Tree.mk tr tm J).pre.length:=by
    rw[tP];simp[bT]
   refine⟨⟨a3,c3,B3,u.ps++[px],u.ts++[Tree.mk tr tm J]⟩,sM,?_,by show cu jy F1 a3 (u.ts++[_]).length c3 B3 _;rw[q0];exact aa,k8.app hS (.cons ck .nil),by show (u.ts++[_]).length=j+1;simp[a1],by show (bT (u.ts++[_])).length<=_;rw[Oi];omega,λi hi=>?_⟩
   ·show ah ([(i5,aC.cells false [.int .i64 P.aB,.int .i64 0,.int .i64 ((1+(bT (u.ts++[Tree.mk tr tm J])).length:Nat):Int),.slice a3 (u.ts++[Tree.mk tr tm J]).length c3])]::B3::_) _;rw[Oi,q0,<-Ts];exact ah.skip _ oR
   ·show ∃k r t,_/\_/\_/\(u.ts++[Tree.mk tr tm J])[i]?=some t;rcases AT i j with h1 | h1
    ·obtain⟨k',r',t',e1,e2,e3,e4⟩:=af i h1;exact⟨k',r',t',e1,e2,e3,by rw[By zo];exact e4⟩
    ·obtain rfl:i=j:=by omega
     exact⟨k,C,_,hk,I,a9,by rw[R0 zo,a1,Tr];rfl⟩
 ·intro u F1 ae hP;obtain⟨hb,hS,a1,bv,af⟩:=hP;have f:=hl.mono ae;have hg:=hb.len;have ac:pick s.lists P.kids c.bV=some u.ts:=wC zo λi k hk=>by
   obtain⟨k',r',t',e1,e2,e3,e4⟩:=af i (by have:=(gS hk).1;omega);rw[hk] at e1;cases e1;exact⟨r',t',e2,e3,e4⟩
  have ab:wi (bQ Ns) s c={ s with q:=s.q++[(c,.mk P.aB 0 u.ts)] }:=by
   unfold wi;simp only[U,Il ac,ac]
  have ar:(Tree.mk P.aB 0 u.ts).pre.length=1+(bT u.ts).length:=by
   show (_::bT u.ts).length=_;rw[If,U1]
  refine gU ?_;refine AW.cond Z (λh=>?_) (λ_=>?_)
  ·exfalso;simp at h
  refine gU ?_;refine WT.ay 0 Z Z (λF2 ba d6=>?_);refine WT.ay 1 Z Z (λF3 an aa=>?_);have cn:=(hb.mono ba).frozen an aa;have co:=an _ _ (d6 i5 _ me);have al:Sh F3 i5 (.mk P.aB 0 u.ts):=.mk (by rw[ar];exact co) cn (hS.mono (ba.trans an));have bb:=(f.mono ba).mono an;refine WT.Ck hT Z Z Z Z Z Z (gU ?_);refine WT.Ck hT Z Z Z Z Z Z ?_
  refine WT.cC 4 Tryz.func241 Z Z Z Z Z Z Z (λ_=>rfl) (Hi F3 (Pc p) bb.q zo bb.qh (x:=(c,.mk P.aB 0 u.ts)) (l:=gX c (.pointer (some ⟨i5,0,none⟩))) ⟨i5,rfl,al,by rw[ar];omega⟩) (λF4 v B4 d7 hv=>?_);obtain⟨a',c',B5,Q2,rfl,d8,d9,ea⟩:=hv;refine WT.le (ah.trans (fM p ⟨a',r.qn+1,c',B5,Q2,r.vs,r.bs,r.nW,r.se,r.sm,r.we,r.wm,r.MF,r.ws⟩ own) (ah.skip _ (ah.skip _ (ah.skip _ (ah.skip _ oR))))) (gU ?_);have g:=bb.mono d7;refine⟨_,[_],rfl,bw,_,rfl,_,rfl,?_⟩;rw[ab]
  exact⟨g.nodes,d8,d9.trans (g.qp.append_right _),ea,g.rows,g.td,g.trees,g.se,g.sl,g.we,g.wn,g.ws,g.wg⟩
theorem vQ(F:aw){p:LP}{Ns:List Node}{r:LR}{s:oI}{c:aO}{done ex:List aO}(f:zJ p Ns F r s)(hf:(bQ Ns).Good)(hI:Inv (bQ Ns) p.most s done [] ex)(hc:lJ (bQ Ns) p.most c)(R:∀T,cP (bQ Ns) s.lists c=some T->∀v,(bQ Ns).leaf v=none->∀x∈s.lists v,Df x T)(hm:p.most<=1000)(C:s.seen.length<800000000000)(I:Ns.length<=1000000)(t0:Value)(ad:one t0=true) :
  Abs.Spec CC 176 [.pointer (some ⟨p.li,0,none⟩),.agg ⟨gX c t0⟩] F [zP p r] λF' v o=>∃U,o=[U]/\∃l,U=zP p l/\zJ p Ns F' l (iV (bQ Ns) s c):=by
 unfold gX;refine Abs.Spec.fn (n:=20) Tryz.func176 rfl rfl λown=>?_;refine AW.seq (AW.fj ?_);refine WT.bZ Z Z Z Z Z Z (λi3 af=>?_);refine WT.le (ah.cons _ (nr p r own)) (gU ?_);refine WT.HN Oq (key:=c) hT 4 f.se Z Z Z Z Z Z Z me Z Z Z ?_;rw[f.sl c];by_cases g:c∈s.seen
 ·rw[nw g];refine gU ?_;refine AW.cond Z (λh=>(by cases h)) (λ_=>?_);refine AW.le (ah.trans (fM p r own) (ah.skip _ oR)) (AW.skip ⟨_,[_],rfl,bw,_,rfl,r,rfl,?_⟩);unfold iV;rw[nw g];exact f
 ·rw[mb g];refine gU ?_;refine AW.cond Z (λ_=>?_) (λh=>(by cases h));refine gU ?_;refine WT.Nr Oq (key:=c) hT 4 0 f.se Z Z Z Z Z Z Z Z Z Z (λ_=>rfl) (λ_=>rfl) (λi j=>?_);refine gU ?_;have J:zJ p Ns F { r with se:=i,sm:=cy r.sm c (.bool true) } { s with seen:=s.seen++[c] }:=
   ⟨f.nodes,f.q,f.qp,f.qh,f.rows,f.td,f.trees,j,λx=>by
    show Abs.look (cy r.sm c (.bool true)) x=if x∈s.seen++[c] then some (.bool true) else none;rw[fR,f.sl x];by_cases e:x=c
    ·rw[nw e,nw (by rw[e];simp)]
    ·rw[mb e];by_cases t:x∈s.seen
     ·rw[nw t,nw (IT _ t)]
     ·rw[mb t,mb (λh3=>by
       rcases AI.1 h3 with h3 | h3
       ·exact t h3
       ·exact e (n0.1 h3))],f.we,f.wn,f.ws,f.wg⟩
  refine WT.le (own2:=[(i3,.cells false [.int .i64 c.node,.int .i64 c.pack,.int .i64 c.r0,.int .i64 c.r1,.int .i64 c.r2,.int .i64 c.r3,.pointer none])]::zP p { r with se:=i,sm:=cy r.sm c (.bool true) }::own) (ah.cons _ (fM p { r with se:=i,sm:=cy r.sm c (.bool true) } own)) (WT.cC 1 Tryz.func215 Z Z Z Z Z Z Z (λ_=>rfl) (AE F J hf (hI.PV hc g) hm (by show (s.seen++[c]).length<=_;rw[q0,SF];omega) I) (λF4 v B4 ag hv=>?_));obtain⟨l,rfl,P⟩:=hv;refine WT.le (ah.skip _ oR) (aq ?_)
  refine⟨_,[_],rfl,bw,_,rfl,l,rfl,?_⟩;unfold iV;rw[mb g];exact P
theorem Kj{c:aO}{j r:Nat}{t:Value}(h:c.bV[j]?=some r):([.int .i64 c.node,.int .i64 c.pack,.int .i64 c.r0,.int .i64 c.r1,.int .i64 c.r2,.int .i64 c.r3,t]:List Value).set (0+2+j*1) (.int .i64 ((r+1:Nat):Int))=gX (c.inc j) t:=by match j,h with| 0,h=>{simp[aO.bV] at h;subst h;rfl}| 1,h=>{simp[aO.bV] at h;subst h;rfl}| 2,h=>{simp[aO.bV] at h;subst h;rfl}| 3,h=>{simp[aO.bV] at h;subst h;rfl}| _+4,h=>{simp[aO.bV] at h}
structure HJ where
 r:LR
 s:oI
theorem Dm(F:aw){p:LP}{Ns:List Node}{r:LR}{s:oI}{c:aO}{T:Tree}{tp:Nat}{q:List (aO×Tree)}{done:List aO}(f:zJ p Ns F r { s with q:=q })(hf:(bQ Ns).Good)(hI:Inv (bQ Ns) p.most { s with q:=(c,T)::q } done [] [])(hb:nE (bQ Ns) s)(bd:∀y∈q,Df T y.2)(cn:T.pre.length<=5000)(co:Sh F tp T)
  (hm:p.most<=1000) (cp:s.seen.length+4<800000000000) (be:Ns.length<=1000000) :
  Abs.Spec CC 178 [.pointer (some ⟨p.li,0,none⟩),.agg ⟨gX c (.pointer (some ⟨tp,0,none⟩))⟩] F [zP p r] λF' v o=>∃B',o=[B']/\∃r' s',B'=zP p r'/\zJ p Ns F' r' s'/\Inv (bQ Ns) p.most s' (c::done) [] []/\nE (bQ Ns) s'/\
   (((s.lists c.node).length=p.most/\s'.lists=s.lists/\s'.seen=s.seen)\/((s.lists c.node).length<p.most/\s'.lists=jF s.lists c.node T/\s'.seen.length<=s.seen.length+4)):=by
 have fa:=f.nodes.len;have cs:=hI.xe (c,T) me;have ab:lJ (bQ Ns) p.most c:=hI.ok c cs.1;obtain⟨pk,I⟩:=ab.pack;have cv:c.node<Ns.length:=ab.node;obtain⟨x,J⟩:∃x,Ns[c.node]?=some x:=⟨_,gE cv⟩;have bf:x.cg[c.pack]?=some pk:=by
  unfold eQ bQ at I;simpa [J] using I
 have hkid:=hf.kids c.node ab.node pk (gM I);obtain⟨ps,al⟩:∃ps,r.nW[c.node]?=some ps:=⟨_,gE (by have:=f.td;omega)⟩;obtain⟨va,g,vc,VB,b1,b2,bi,c1,bl,bn⟩:=f.rows.split al;have bo:k8 F ps (s.lists c.node):=f.trees c.node ps al;have ac:=bl.len;have C:=bo.len;have hlen:(s.lists c.node).length<=p.most:=hI.len c.node;unfold gX;refine Abs.Spec.fn (n:=101) Tryz.func178 rfl rfl λown=>?_;refine AW.seq (AW.fj ?_);refine WT.bZ Z Z Z Z Z Z (λi3 fc=>?_);refine WT.le (ah.cons _ (nr p r own)) (gU ?_)
 refine WT.cz (j:=c.node) (s:=1) hT Z Z Z Z Z Z Z Z Z zo (WT.loadAt hT 2 Z Z Z Z Z Z me Z Z (v:=.slice va g vc) (by rw[yo,R9];exact bi) (gU ?_));refine AW.cond Z (λhc=>?_) (λhc=>?_)
 ·have hc:g=p.most:=by simp at hc;omega
  refine AW.le (ah.trans (fM p r own) (ah.skip _ oR)) (AW.ret ⟨_,[_],rfl,bw,_,rfl,r,{ s with q:=q },rfl,f,hI.drop (by rw[C,<-ac];exact hc),hb,.inl ⟨by rw[C,<-ac];exact hc,rfl,rfl⟩⟩)
 ·have hc:g<p.most:=by simp at hc;omega
  have c2:=hI.take hf hb bd (by rw[C,<-ac];exact hc) cn;have an:(s.lists c.node).length=g:=by rw[C,<-ac]
  refine gU ?_;rw[c1];refine AW.le (ah.cons _ (ah.cons _ (ah.cons _ (m9 b1 VB b2 _)))) (AW.draw (ps:=[(3,16),(3,17),(5,16),(5,17),(9,16),(11,16),(13,16)]) Z Z (gU ?_));refine WT.cz (j:=c.node) (s:=1) hT Z Z Z Z Z Z Z Z Z zo (WT.loadAt hT 2 Z Z Z Z Z Z me Z Z (v:=.slice va g vc) (by rw[yo,R9];exact bi) (gU ?_));refine WT.aS hT Z Z Z Z Z Z Z Z Z Z Z Z Z Z (λi9 fd=>?_)
  refine WT.bu (ys:=[tp]) hT 5 bl Z (λ_=>rfl) Z Z Z Z Z Z Z Z Z Z Z (λh0 s0=>aT hT s0 0 Z Z Z Z) (aF.single (R:=jy) (x:=tp) rfl) Z (by decide) gT (λa3 c3 B3 c5=>?_);refine WT.cz (j:=c.node) (s:=1) hT Z Z Z Z Z Z Z Z Z zo (WT.storeAt hT 3 0 Z Z Z Z Z Z Z Z Z Z (by have:=f.rows.len;have:=f.td;omega) Z Z ?_);rw[show 0+c.node*1=c.node by omega];refine gU ?_;refine⟨Ob,?_⟩;refine gU ?_;refine WT.aG hT Z Z Z Z Z Z (λi5 fk=>?_);refine gU ?_;obtain⟨xa,xn,xc,WB,W1,W2,c6,br,bs,_,bt,bv,bx⟩:=f.ws.slot f.wn (c.node,g)
  refine WT.HN Kx (key:=(c.node,g)) hT 8 f.we Z Z Z Z Z Z Z me Z Z Z ?_;rw[c6];refine gU ?_;refine WT.Ng Kx (key:=(c.node,g)) hT 8 0 f.we Z Z Z Z Z Z Z Z Z (λ_=>rfl) (λ_=>rfl) (λc8 b0=>?_);refine gU ?_;have c9:s.waits (c.node,(s.lists c.node).length)=eX r.ws (c.node,g):=by rw[an];exact f.wg _
  have ap:=hI.NZ (c.node,g);rw[show ({ s with q:=(c,T)::q }:oI).waits (c.node,g)=eX r.ws (c.node,g) from f.wg _] at ap;have ap:(eX r.ws (c.node,g)).length<=s.seen.length:=ap;have fr:=bs.len;obtain⟨kI,P,kW,b3,dd,df⟩:=c2;rw[c9] at kI kW;have dl:zJ p Ns F ⟨r.qa,r.qn,r.qc,r.qB,r.Q,r.vs.set c.node (.slice a3 (g+1) c3),b1++(B3++b2),r.nW.set c.node (ps++[tp]),r.se,r.sm,c8,j4 r.wm (c.node,g),W1++W2,bt⟩ (si s c T q):=
   ⟨f.nodes,f.q,f.qp,f.qh,bn a3 (g+1) c3 B3 _ c5,by rw[Su];exact f.td,λv us t=>by
    show k8 F us (jF s.lists c.node T v);have t:(r.nW.set c.node (ps++[tp]))[v]?=some us:=t;by_cases e:v=c.node
    ·subst e;rw[sj (gS al).1] at t;cases t;rw[kg];exact k8.app bo (.cons co .nil)
    ·rw[tj (λe2=>e e2.symm)] at t;rw[pI _ _ e];exact f.trees v us t,f.se,f.sl,b0,xv f.wn,bv,λw=>by
    show (if w=(c.node,(s.lists c.node).length) then [] else s.waits w)=eX bt w;rw[bx w,an];split
    ·rfl
    ·exact f.wg w⟩
  refine AW.range (S:=HJ) (λ_=>[]) (λu=>[(i3,.cells false [.int .i64 c.node,.int .i64 c.pack,.int .i64 c.r0,.int .i64 c.r1,.int .i64 c.r2,.int .i64 c.r3,.pointer (some ⟨tp,0,none⟩)])]::zP p u.r::WB::own)
   (λj u G=>zJ p Ns G u.r u.s/\Inv (bQ Ns) p.most u.s (c::done) ((eX r.ws (c.node,g)).drop j) [c]/\u.s.lists=(si s c T q).lists/\u.s.seen=s.seen) xn ⟨_,_⟩
   Z Z Z Z Z Z Z Z Z zo rfl rfl (λ_=>rfl) (λ_=>rfl) sM ?_ ⟨dl,by rw[TE];exact kI,rfl,rfl⟩ ?_ ?_
  ·refine ah.trans (ah.cons _ (fM p _ (WB::own))) (ah.trans (ah.cons _ (ah.cons _ (ah.cons _ (tU b1 B3 b2 _)))) ?_);rw[br];exact ah.skip _ (ah.skip _ (ah.cons _ (ah.cons _ (ah.cons _ (ah.cons _ (ah.cons _ (ah.cons _ (ah.cons _ (m9 W1 WB W2 own)))))))))
  ·intro j u F1 ds hj hP;obtain⟨ul,uI,uL,uS⟩:=hP;obtain⟨d,hd⟩:∃d,(eX r.ws (c.node,g))[j]?=some d:=⟨_,gE zo⟩;have ae:GB JY F1 xa xn xc WB (eX r.ws (c.node,g)):=(Pk bs).gb;have av:(eX r.ws (c.node,g)).drop j=d::(eX r.ws (c.node,g)).drop (j+1):=by
    obtain⟨h1,h2⟩:=gS hd;rw[OF h1,h2]
   rw[av] at uI;refine gU ?_;refine WT.wu hT ae Z Z Z Z Z Z Z Z Z hj (λb7 ax=>?_);refine WT.Md hT 2 ae ax hd Z Z Z Z Z Z (λz hz=>hz) Z Z Z (λl d0=>?_);obtain rfl:l=gX d (.pointer none):=d0;unfold gX;refine WT.aG hT Z Z Z Z Z Z (λi8 fx=>?_);refine gU ?_;refine WT.cC 2 Tryz.func215 Z Z Z Z Z Z Z (λ_=>rfl) (AE F1 ul hf uI hm (by rw[uS];omega) be) (λF4 v B4 d1 t=>?_);obtain⟨r',rfl,a0⟩:=t;refine gU ?_;have b5:=A2 (bQ Ns) u.s d
   refine⟨⟨r',wi (bQ Ns) u.s d⟩,sM,ah.skip _ oR,a0,uI.P5 hf (λU hU v t x J=>?_),b5.1.trans uL,b5.2.trans uS⟩;rw[uL] at hU J;exact .inl (rX (P v t x J) (kW d (gM hd) U hU))
  ·intro u F1 ds hP;obtain⟨ul,uI,uL,uS⟩:=hP;rw[Se zo] at uI;have d2:=ul.nodes;have d3:u.r.qn=u.r.qn:=rfl;refine gU ?_;refine WT.le (ah.cons _ (nr p u.r (WB::own))) (WT.bk hT d2 Z Z Z Z Z Z Z Z Z zo (λz hz b7 e0 f5 f6 f7 ax d4 a1=>?_));rw[J] at hz;cases hz;obtain⟨pa,pn,pc,rfl,b6⟩:=a1;have e1:=b6.len;refine gU ?_;refine WT.bk hT b6 Z Z Z Z Z Z Z Z Z (by have:=(gS bf).1;omega) (λz hz b8 e3 f8 f9 ga gd gl a2=>?_);rw[bf] at hz;cases hz;obtain⟨ka,kn,kc,rfl,d5,gs⟩:=a2;have e4:=d5.len;clear ax d4
   refine gU ?_;refine AW.range (S:=HJ) (λ_=>[]) (λz=>[(i3,.cells false [.int .i64 c.node,.int .i64 c.pack,.int .i64 c.r0,.int .i64 c.r1,.int .i64 c.r2,.int .i64 c.r3,.pointer (some ⟨tp,0,none⟩)])]::zP p z.r::WB::own)
    (λj z G=>zJ p Ns G z.r z.s/\Inv (bQ Ns) p.most z.s (c::done) [] [c]/\z.s.lists=(si s c T q).lists/\(∀d∈s.seen,d∈z.s.seen)/\z.s.seen.length<=s.seen.length+j/\∀i,i<j->c.inc i∈z.s.seen) kn ⟨u.r,u.s⟩
    Z Z Z Z Z Z Z Z Z zo rfl rfl (λ_=>rfl) (λ_=>rfl) sM (ah.cons _ (fM p u.r (WB::own))) ⟨ul,uI,uL,λd hd=>by rw[uS];exact hd,by rw[uS];exact mc _,λi hi=>by omega⟩ ?_ ?_
   ·intro j z F2 d6 hj hQ;obtain⟨yl,yI,yL,yS,yn,yi⟩:=hQ;have a5:j<4:=by omega
    obtain⟨rj,a8⟩:∃rj,c.bV[j]?=some rj:=⟨_,gE (by show j<4;exact a5)⟩;have e6:=ab.Ek rj (gM a8);obtain⟨b9,ca⟩:=b3 pk I j zo;refine gU ?_;refine WT.aG hT Z Z Z Z Z Z (λi10 e7=>?_);refine gU ?_;refine WT.uM (j:=j) (s:=1) (len:=4) hT Z Z Z Z Z Z Z Z Z a5 (WT.loadAt hT 0 Z Z Z Z Z Z me Z Z (o7 a8) (Q0 ?_));refine WT.uM (j:=j) (s:=1) (len:=4) hT Z Z Z Z Z Z Z Z Z a5 (WT.storeAt hT 0 0 Z Z Z Z Z Z Z Z Z Z (by show 0+2+j*1<7;omega) Z Z ?_);rw[Kj a8];unfold gX;refine gU ?_
    refine WT.cC 2 Tryz.func176 Z Z Z Z Z Z Z (λ_=>rfl) (vQ F2 yl hf yI b9 (λU hU v t x J=>by
     rw[yL] at hU J;exact .inl (rX (P v t x J) (ca U hU))) hm zo be (.pointer (some ⟨tp,0,none⟩)) rfl) (λF4 v B4 d1 t=>?_)
    obtain⟨r',rfl,a0⟩:=t;refine gU ?_;obtain⟨f1,f2,f3,f4⟩:=vz (bQ Ns) z.s (c.inc j);refine⟨⟨r',iV (bQ Ns) z.s (c.inc j)⟩,sM,ah.skip _ oR,a0,yI.KN hf b9 (λU hU v t x J=>?_),f1.trans yL,λd hd=>f2 d (yS d hd),by show (iV (bQ Ns) z.s (c.inc j)).seen.length<=s.seen.length+(j+1);omega,λi hi=>?_⟩
    ·rw[yL] at hU J;exact .inl (rX (P v t x J) (ca U hU))
    ·rcases AT i j with h1 | h1
     ·exact f2 _ (yi i h1)
     ·obtain rfl:i=j:=by omega
      exact f3
   ·intro z F2 d6 hQ;obtain⟨yl,yI,yL,yS,yn,yi⟩:=hQ;refine⟨_,[_],rfl,List.Sublist.cons _ (List.Sublist.cons_cons _ (List.Sublist.cons _ (Sa _))),_,rfl,z.r,z.s,rfl,yl,yI.close (T:=T) (by rw[yL];exact dd) (by rw[yL];exact df) (λp' cc i hi=>?_),λv t ec a ha=>yS _ (hb v t ec a ha),.inr ⟨by rw[an];exact hc,yL,by omega⟩⟩;rw[I] at cc;cases cc;exact yi i zo
def Dg:Ty (List Value) where
 size:=3
 rel:=λ_ l x=>l=x/\x.length=3/\x.all Go.Abs.one=true
 len:=λ_ _ _ h=>by rw[h.1];exact h.2.1
 one:=λ_ _ _ h=>by rw[h.1];exact h.2.2
 mono:=λ_ _ _ _ _ h=>h
def E0:aw:=λ_=>none
theorem On{F G:aw}{cs:List Value}{ps:List (List Value)}(h:aF Dg F cs ps):aF Dg G cs ps:=by induction h with|nil=>exact .nil|cons h _ f=>{exact .cons h f}
theorem Nq{F G:aw}{a:Option Addr}{n c:Nat}{B:List (Nat×aC)}{ps:List (List Value)}(h:cu Dg F a n c B ps):cu Dg G a n c B ps:=
 ⟨h.len,h.at_.imp id λ⟨i,cs,f,g,j,l,o⟩=>⟨i,cs,f,g,j,On l,o⟩⟩
mutual
inductive xO:List Value->List (Nat×aC)->Tree->Prop
 | mk {r:Int} {t:Nat} {ks:List Tree} {a:Option Addr} {n c:Nat} {B bs:List (Nat×aC)} {k6:List (List Value)}:cu Dg E0 a n c B k6->fN k6 bs ks->ks.length<=1000000->xO [.int .i64 r,.int .i64 t,.slice a n c] (B++bs) (.mk r t ks)
inductive fN:List (List Value)->List (Nat×aC)->List Tree->Prop
 | nil:fN [] [] []
 | cons {cs:List Value} {B:List (Nat×aC)} {t:Tree} {k6:List (List Value)} {bs:List (Nat×aC)} {ts:List Tree}:xO cs B t->fN k6 bs ts->fN (cs::k6) (B++bs) (t::ts)
end
theorem xO.shape{cs:List Value}{B:List (Nat×aC)}{t:Tree}(h:xO cs B t):cs.length=3/\cs.all Go.Abs.one=true:=by cases h;exact⟨rfl,rfl⟩
theorem fN.len:∀{f:List (List Value)} {bs:List (Nat×aC)} {ts:List Tree},fN f bs ts->f.length=ts.length
 | _,_,_,.nil=>rfl
 | _,_,_,.cons _ h=>by simp[fN.len h]
theorem fN.snoc{cs:List Value}{B:List (Nat×aC)}{t:Tree}(h:xO cs B t):∀{f:List (List Value)} {bs:List (Nat×aC)} {ts:List Tree},fN f bs ts->fN (f++[cs]) (bs++B) (ts++[t])
 | _,_,_,.nil=>by simpa using fN.cons h .nil
 | _,_,_,.cons g i=>by{rw[AS];exact .cons g (fN.snoc h i)}
mutual
theorem xO.frozen{G:aw}:∀{t:Tree} {cs:List Value} {B:List (Nat×aC)},xO cs B t->(∀i b,(i,b)∈B->G i=some b)->gN.rel G cs t
 | .mk _ _ ks,_,_,.mk g j hk,f=>L1 (fN.frozen g j (λi b hm=>f i b (IT _ hm)) (λi b hm=>f i b (R8 _ hm))) hk
theorem fN.cells{G:aw}:∀{ts:List Tree} {g:List (List Value)} {bs:List (Nat×aC)} {cs:List Value},aF Dg E0 cs g->fN g bs ts->(∀i b,(i,b)∈bs->G i=some b)->aF gN G cs ts
 | [],_,_,_,f,.nil,_=>by cases f;exact .nil
 | t::ts,_,_,_,f,.cons l o,j=>by{cases f with|cons p r=>{obtain⟨rfl,_⟩:=p;exact .cons (xO.frozen l λi b hm=>j i b (IT _ hm)) (fN.cells r o λi b hm=>j i b (R8 _ hm))}}
theorem fN.frozen{G:aw}:∀{ts:List Tree} {f:List (List Value)} {bs:List (Nat×aC)} {a:Option Addr} {n c:Nat} {B:List (Nat×aC)},cu Dg E0 a n c B f->fN f bs ts->(∀i b,(i,b)∈B->G i=some b)->(∀i b,(i,b)∈bs->G i=some b)->a7 gN G a n c ts
 | ts,f,bs,a,n,c,B,t,C,I,g=>by{have J:=t.len;have j:=C.len;have:cu gN G a n c B ts:=⟨by omega,t.at_.imp (λ⟨l,o,p,r⟩=>⟨D1 (by rw[<-j,l];rfl),o,p,r⟩) λ⟨i,cs,l,o,p,r,P⟩=>⟨i,cs,l,o,p,fN.cells r C g,by decide⟩⟩;exact this.frozen (aw.le.refl G) I}
end
theorem Cv(F:aw)(t:Nat):Abs.Spec CC 129 [.int .i64 t] F [] λi v o=>o=[]/\v=.agg ⟨[.int .i64 (-1),.int .i64 t,.slice none 0 0]⟩:=by refine Abs.Spec.fn (n:=5) Tryz.func129 rfl rfl λown=>?_;refine AW.seq (AW.fj ?_);refine WT.aG hT Z Z Z Z Z Z (λi2 f=>?_);refine aq ?_;exact AW.ret ⟨_,[],⟨_,_,⟨_,rfl,λG j g=>aR (g.has (p:=0) rfl me) (bh hT rfl)⟩,rfl,rfl⟩,bw,rfl,rfl⟩
inductive Plain:Tree->Prop
 | leaf {t:Nat}:Plain (.mk (-1) t [])
 | node {r:Nat} {ks:List Tree}:(∀k∈ks,Plain k)->Plain (.mk r 0 ks)
mutual
theorem NT.plain{f:Fo}:∀{T:Tree} {v:Nat},NT f v T->Plain T
 | .mk _ _ _,_,.leaf _ _=>.leaf
 | .mk _ _ _,_,.node _ _ _ h=>.node (rI.plain h)
theorem rI.plain{f:Fo}:∀{ts:List Tree} {ks:List Nat},rI f ks ts->∀t∈ts,Plain t
 | [],_,_,t,h=>by cases h
 | t0::ts,_,.cons g i,t,h=>by{rcases IN.1 h with e | h;{rw[e];exact NT.plain g};{exact rI.plain i t h}}
end
theorem DR{α:Type}(x a b c l:List α):(x++(a++(b++(c++l)))).Perm (a++(b++(c++(x++l)))):=by have h:=(T0 (l₁:=x) (l₂:=a++(b++c))).append_right l;simpa [AS] using h
structure Rt where
 a:Option Addr
 c:Nat
 B:List (Nat×aC)
 k6:List (List Value)
 bs:List (Nat×aC)
theorem xp:∀(N:Nat) (T:Tree),T.pre.length<N->Plain T->T.pre.length<=100000->∀(F:aw) (p:Nat),Sh F p T->
  Abs.Spec CC 179 [.pointer (some ⟨p,0,none⟩)] F [] λF' v o=>∃B',o=[B']/\∃cs,v=.agg ⟨cs⟩/\xO cs B' T
 | 0,_,h,_,_,_,_,_=>by omega
 | N+1,T,hN,hp,bb,F,p,hs=>by
  cases hp with
  | @leaf t=>
   cases hs with
   | @mk _ _ _ _ a n c ps g1 g2 g3=>
   refine Abs.Spec.fn (n:=39) Tryz.func179 rfl rfl λown=>?_;refine AW.seq (AW.fj ?_);refine WT.aG hT Z Z Z Z Z Z (λi2 ac=>?_);refine aq ?_;refine AW.cond Z (λ_=>?_) (λh=>(by cases h));refine aq ?_;refine WT.aX Tryz.func129 Z Z Z Z Z Z (Cv _ t) (λv hv=>?_);subst hv;refine aq ?_;refine AW.le (own2:=[]::[(i2,.cells false [.int .i64 (-1),.int .i64 t,.slice none 0 0])]::own) (ah.flat (ri _)) ?_
   exact AW.ret ⟨_,[[]],⟨_,_,⟨_,rfl,λG h0 I=>aR (I.has (p:=1) rfl me) (bh hT rfl)⟩,rfl,rfl⟩,List.Sublist.cons_cons _ (List.Sublist.cons _ (Sa _)),_,rfl,_,rfl,xO.mk (B:=[]) (bs:=[]) (cu.dF _ _) .nil (by simp)⟩
  | @node r ks ae=>
   cases hs with
   | @mk _ _ _ _ a n c ps g1 g2 g3=>
   have bd:=g2.len;have be:=g3.len;have bf:=pU ks;have bi:(Tree.mk (r:Int) 0 ks).pre.length=(bT ks).length+1:=rfl;refine Abs.Spec.fn (n:=39) Tryz.func179 rfl rfl λown=>?_;refine AW.seq (AW.fj ?_);refine WT.aG hT Z Z Z Z Z Z (λi2 ac=>?_);refine aq ?_;refine AW.cond Z (λh=>?_) (λ_=>?_)
   ·exfalso;simp at h;omega
   refine aq ?_;refine WT.aG hT Z Z Z Z Z Z (λi3 bl=>?_);refine aq ?_;refine AW.range (S:=Rt) (λ_=>[]) (λs=>s.B::[(i3,.cells false [.int .i64 r,.int .i64 0,.slice s.a s.k6.length s.c])]::s.bs::[(i2,.cells false [.int .i64 0,.int .i64 0,.slice none 0 0])]::own)
    (λj s G=>cu Dg E0 s.a s.k6.length s.c s.B s.k6/\fN s.k6 s.bs (ks.take j)) n ⟨none,0,[],[],[]⟩
    Z Z Z Z Z Z Z Z Z zo rfl rfl (λ_=>rfl) (λ_=>rfl) sM (ah.flat (ri _)) ⟨cu.dF _ _,.nil⟩ ?_ ?_
   ·intro j s F1 l hj hP;obtain⟨hb,J⟩:=hP;have al:=J.len;rw[R5] at al;have an:=g2.mono l;obtain⟨k,hk⟩:∃k,ks[j]?=some k:=⟨_,gE zo⟩;have P:=gM hk;have bn:=kZ P;refine aq ?_;refine WT.bk hT an Z Z Z Z Z Z Z Z Z zo (λq hq b9 a8 br bt ao bv bx C=>?_);obtain rfl:ao=_:=C;have ap:=(g3.at_ hq hk).mono l;refine aq ?_;refine AW.draw (ps:=[(1,3),(1,4)]) Z Z (aq ?_);refine WT.mA Tryz.func179 Z Z Z Z Z Z (xp N k zo (ae k P) zo F1 q ap) (λF2 v B2 b0 hv=>?_);obtain⟨cs,rfl,U⟩:=hv;obtain⟨ar,av⟩:=U.shape
    obtain⟨f,g,i,rfl⟩:∃f g i,cs=[f,g,i]:=by
     match cs,ar with
     | [f,g,i],_=>exact⟨f,g,i,rfl⟩
    refine WT.aS hT Z Z Z Z Z Z Z Z Z Z Z Z Z Z (λi9 b1=>?_);refine WT.bu (R:=Dg) (ys:=[[f,g,i]]) hT 2 (Nq hb) Z (λ_=>rfl) Z Z Z Z Z Z Z Z Z Z Z (λh0 I=>aT hT I 0 Z Z Z Z) (aF.single (R:=Dg) ⟨rfl,rfl,av⟩) Z (by decide) gT (λa3 c3 B3 a1=>?_);refine aq ?_;refine⟨Ob,?_⟩;refine⟨⟨a3,c3,B3,s.k6++[[f,g,i]],s.bs++B2⟩,sM,?_,by show cu Dg E0 a3 (s.k6++[[f,g,i]]).length c3 B3 _;rw[q0];exact Nq a1,by rw[yf,hk];exact J.snoc U⟩
    ·show ah (B3::[(i3,.cells false [.int .i64 r,.int .i64 0,.slice a3 (s.k6++[[f,g,i]]).length c3])]::(s.bs++B2)::_) _;rw[q0];refine ah.skip _ (ah.flat ?_);simp only[So,AS];exact DR _ _ _ _ _
   ·intro s F1 l hP;obtain⟨hb,J⟩:=hP;rw[pf zo] at J;refine aq ?_;refine AW.le (own2:=[(i2,.cells false [.int .i64 r,.int .i64 0,.slice s.a s.k6.length s.c])]::(s.B++s.bs)::own) (ah.trans (ah.flat ?_) (ah.cons _ (ah.skip _ oR))) ?_
    ·have:=T4 (a:=(i2,aC.cells false [.int .i64 r,.int .i64 0,.slice s.a s.k6.length s.c])) (l₁:=s.B++s.bs) (l₂:=own.flatten);simpa [AS] using this
    refine AW.ret ⟨_,[_],⟨_,_,⟨_,rfl,λG h0 I=>aR (I.has (p:=0) Z me) (bh hT rfl)⟩,rfl,rfl⟩,List.Sublist.cons _ (Sa _),_,rfl,_,rfl,xO.mk hb J zo⟩
def HX(g:aj)(w:List Nat)(F:aw)(s:Sym)(i:Nat)(v:Value):Prop:=
 v=.agg ⟨[.pointer none,.int .i64 (-1)]⟩\/∃b ro cs t j,v=.agg ⟨[.pointer (some ⟨b,0,none⟩),.int .i64 (j:Nat)]⟩/\F b=some (.cells ro cs)/\gN.rel F cs t/\aN g w s t i j
theorem HX.mono{g:aj}{w:List Nat}{F G:aw}{s:Sym}{i:Nat}{v:Value}(h:HX g w F s i v)(f:aw.le F G):HX g w G s i v:=by rcases h with h | ⟨b,ro,cs,t,j,l,o,p,r⟩;{exact .inl h};{exact .inr ⟨b,ro,cs,t,j,l,f _ _ o,gN.mono _ _ _ _ f p,r⟩}
def Hh(g:aj)(w:List Nat)(F:aw)(es:bS (Nat×Nat)):Prop:=∀n i v,Abs.look es (n,i)=some v->HX g w F ⟨false,n⟩ i v
theorem Hh.mono{g:aj}{w:List Nat}{F G:aw}{es:bS (Nat×Nat)}(h:Hh g w F es)(f:aw.le F G):Hh g w G es:=λn i v q=>(h n i v q).mono f
structure PA where
 p:Nat
 im:Nat
 a:Option Addr
 m:Nat
 c:Nat
 b:Option Addr
 k:Nat
 d:Nat
structure xY(F:aw)(x:PA)(g:aj)(w:List Nat):Prop where
 cf:∃ro,F x.p=some (.cells ro [.int .i64 g.ae,.int .i64 g.az,.int .i64 g.start,.slice x.a x.m x.c,.slice x.b x.k x.d,.map (some x.im)])
 rules:a7 cO F x.a x.m x.c g.rules
 word:a7 eO F x.b x.k x.d w
theorem xY.mono{F G:aw}{x:PA}{g:aj}{w:List Nat}(h:xY F x g w)(f:aw.le F G):xY G x g w:=
 ⟨let ⟨ro,q⟩:=h.cf;⟨ro,f _ _ q⟩,h.rules.mono f,h.word.mono f⟩
def PX{S:Type}(g:S->bY)(i:S->bH)(P:S->aw->Prop)(A:Ex->bY->aw->bH->Prop):Ex->bY->aw->bH->Prop
 | .normal,k',f,be=>∃s,dm (g s) k'/\ah (i s) be/\P s f
 | x,k',f,be=>A x k' f be
theorem Ph{C:Ctx}{n:Nat}{k:bY}{F:aw}{own:bH}{A:Ex->bY->aw->bH->Prop}{S:Type}(i:S->bY)(j:S->bH)(P:S->aw->Prop){a b:Code}(l:AW C n a k F own (PX i j P A))
  (o:∀s f,aw.le F f->P s f->AW C n b (i s) f (j s) A):AW C n a k F own (vW (λk' f be=>AW C n b k' f be A) A):=by refine AW.mono l λx k' f be p g=>?_;cases x with|normal=>{obtain⟨s,r,t,I⟩:=g;exact AW.weaken r (AW.le t (o s f p I))}|exit id=>exact g|ret=>{exact g}
theorem P7{C:Ctx}{n:Nat}{k:bY}{F:aw}{own:bH}{A:Ex->bY->aw->bH->Prop}{S:Type}(f:S->bY)(i:S->bH)(P:S->aw->Prop){a b:Code}(j:AW C n a k F own (Pe f k i P A))
  (l:∀s g,aw.le F g->P s g->AW C n b (f s++k) g (i s) A):AW C n a k F own (vW (λk' g be=>AW C n b k' g be A) A):=
 Ph (λs=>f s++k) i P j l
structure RI where
 ks:List Tree
 a:Option Addr
 c:Nat
 Bk:List (Nat×aC)
 B:List (Nat×aC)
 e:Int
 l:Nat
structure PO where
 q:Option Addr
 e:Int
 B:List (Nat×aC)
def fe(f:Fo)(j:Nat):oI:=⟨λv=>if v<j then (match f.leaf v with | some t=>[.mk (-1) t []] | none=>[]) else [],[],λ_=>[],[]⟩
theorem xW{f:Fo}{j v:Nat}{T:Tree}(h:T∈(fe f j).lists v):v<j/\∃t,f.leaf v=some t/\T=.mk (-1) t []:=by unfold fe at h;simp only at h;split at h;{rename_i g;split at h;{rename_i t i;exact⟨g,t,i,n0.1 h⟩};{cases h}};{cases h}
theorem uo{f:Fo}{j v:Nat}(h:f.leaf v=none):(fe f j).lists v=[]:=by rw[Uh];intro T hT;obtain⟨_,t,g,_⟩:=xW hT;rw[h] at g;cases g
theorem I1{f:Fo}{j:Nat}(h:f.leaf j=none):fe f (j+1)=fe f j:=by unfold fe;simp only[oI.mk.injEq,Uw];funext v;by_cases e:v=j;{subst e;rw[nw (Sp _),mb (Tt _),h]};{by_cases g:v<j;{rw[nw g,nw zo]};{rw[mb g,mb zo]}}
theorem Nn{f:Fo}{j t:Nat}(h:f.leaf j=some t):(fe f (j+1)).lists j=[.mk (-1) t []]:=by unfold fe;simp only;rw[nw (Sp _),h]
theorem Nj{f:Fo}{j v:Nat}(h:v≠j):(fe f (j+1)).lists v=(fe f j).lists v:=by unfold fe;simp only;by_cases g:v<j;{rw[nw g,nw zo]};{rw[mb g,mb zo]}
theorem EM(f:Fo)(j v:Nat):((fe f j).lists v).length<=1:=by unfold fe;simp only;split;{split<;>simp};{simp}
theorem Ky(f:Fo){most:Nat}(hm:1<=most):Inv f most (fe f f.n) [] [] [] where
 ok:=λc g=>by cases g
 snd:=Tu
 nX:=λc g=>by cases g
 uD:=λc g=>by cases g
 FQ:=Tu
 Mn:=Tu
 H6:=Tu
 FB:=λ_=>Tu
 dq:=λc g=>by cases g
 pq:=λc g=>by cases g
 qw:=λc g=>by cases g
 xe:=λc g=>by cases g
 p7:=λw c g=>by cases g
 cover:=λc g=>by cases g
 next:=λc g=>by cases g
 k5:=λv t i p=>by
  unfold fe;simp only;rw[nw i,p]
 from_:=λv i T hT=>by rw[uo i] at hT;cases hT
 len:=λv=>by have:=EM f f.n v;omega
 sorted:=λv=>by
  have h:=EM f f.n v
  match (fe f f.n).lists v,h with
  | [],_=>exact .nil
  | [a],_=>exact TQ _ _
  | _::_::_,h=>simp at h
 ord:=λv i x C y r=>by cases r
 valid:=λv T hT=>by
  obtain⟨j,t,l,rfl⟩:=xW hT;exact .leaf j l
 full:=λv i o=>by rw[uo i] at o;simp at o;omega
 small:=λv T hT=>by
  obtain⟨j,t,l,rfl⟩:=xW hT;show ([(-1:Int)]++[]).length<=5000;simp
def Mo(L:Nat->List Tree)(n:Nat):Nat:=((List.range n).map λv=>(L v).length).sum
theorem GA{L:Nat->List Tree}{most:Nat}(h:∀v,(L v).length<=most):∀n,Mo L n<=n*most
 | 0=>by simp[Mo]
 | n+1=>by{have f:=GA h n;have:=h n;unfold Mo at f |-;rw[Tp,R1,Tf,Sq];simp;omega}
theorem Ia(L:Nat->List Tree){v:Nat}(T:Tree):∀n,Mo (jF L v T) n=Mo L n+(if v<n then 1 else 0)
 | 0=>by simp[Mo]
 | n+1=>by{have f:=Ia L (v:=v) T n;unfold Mo at f |-;rw[Tp,R1,Tf,R1,Tf,f];simp only[y2,U2,Sv,List.sum_nil,Tc];by_cases e:n=v;{subst e;rw[kg,q0,mb (Tt _),nw (Sp _)];simp;omega};{rw[pI _ _ e];by_cases h:v<n;{rw[nw h,nw zo];omega};{rw[mb h,mb zo];omega}}}
theorem Al(F:aw):∀n,iZ F (List.replicate n (.slice none 0 0)) [] (List.replicate n [])
 | 0=>.nil
 | n+1=>by{have:=iZ.cons (cu.dF jy F) (Al F n);simpa [List.replicate_succ] using this}
def DZ(Ns:List Node)(j:Nat):Nat:=((Ns.take j).map λx=>x.cg.length).sum
theorem DK{Ns:List Node}{j:Nat}{x:Node}(h:Ns[j]?=some x):DZ Ns (j+1)=DZ Ns j+x.cg.length:=by unfold DZ;rw[yf,h,R1,Tf];simp
theorem Kg{Ns:List Node}{j k:Nat}(h:j<=k):DZ Ns j<=DZ Ns k:=by induction k with|zero=>{obtain rfl:j=0:=by{omega};exact mc _}|succ k g=>{rcases AT j (k+1) with h2 | h2;{refine LN (g zo) ?_;cases f:Ns[k]? with|none=>{unfold DZ;rw[yf,f];simp}|some x=>{rw[DK f];omega}};{obtain rfl:j=k+1:=by{omega};exact mc _}}
structure Qi(Ns:List Node)(root most:Nat)(L:List Tree)(c:Int):Prop where
 Ca:BB (bQ Ns) root most L
 count:dz (λd=>bC Ns d root) c
theorem G0{α:Type}(a b c:α)(l:List α):(a::b::c::l).Perm (c::b::a::l):=
 ((List.Perm.swap b a _).trans (List.Perm.cons b (List.Perm.swap c a l))).trans (List.Perm.swap c b _)
theorem LO{α:Type}(x a b l:List α):(x++(a++(b++l))).Perm (a++(b++(x++l))):=by have h:=(T0 (l₁:=x) (l₂:=a++b)).append_right l;simpa [AS] using h
structure Q9 where
 a:Option Addr
 n:Nat
 c:Nat
 B:List (Nat×aC)
 k6:List (List Value)
 bs:List (Nat×aC)
structure Q3 where
 r:LR
 s:oI
 done:List aO
theorem P6{p:Prop} (h:p:=by{intro j u F5 hF5 hj hP5;obtain⟨hb,hL⟩:=hP5;have hLl:=hL.len;have hbl5:=hb.len;rw[R5] at hLl;have hVB5:=(hVB.mono hF5).gb;obtain⟨q,hq⟩:∃q,ps[j]?=some q:=⟨_,gE zo⟩;obtain⟨k,hk⟩:∃k,(y.s.lists root)[j]?=some k:=⟨_,gE zo⟩;have hkm:=gM hk;have hsm:=yF.small k hkm;have hsq:=(htr.at_ hq hk).mono hF5;refine aq ?_;refine WT.wu hT hVB5 Z Z Z Z Z Z Z Z Z hj (λb9 hb9=>?_);refine WT.K7 (x:=q) hT 4 hVB5 hb9 hq Z Z Z Z Z Z (λz hz=>by rw[hbs];exact R8 _ (IT _ hz)) Z Z Z (λv hv=>?_);obtain rfl:v=_:=(Uj.1 hv);refine aq ?_;refine WT.mA Tryz.func179 Z Z Z Z Z Z (xp _ k (Sp _) (yF.valid k hkm).plain zo F5 q hsq) (λF6 v B6 hF6 hv=>?_);obtain⟨cs,rfl,hcs⟩:=hv;obtain⟨hc3,hc1⟩:=hcs.shape;obtain⟨x1,x2,x3,rfl⟩:∃x1 x2 x3,cs=[x1,x2,x3]:=by{match cs,hc3 with| [x1,x2,x3],_=>{exact⟨x1,x2,x3,rfl⟩}};refine WT.aS hT Z Z Z Z Z Z Z Z Z Z Z Z Z Z (λi9 hi9=>?_);refine WT.bu (R:=Dg) (ys:=[[x1,x2,x3]]) hT 2 (Nq hb) Z (λ_=>rfl) Z Z Z Z Z Z Z Z Z Z Z (λh0 s0=>aT hT s0 0 Z Z Z Z) (aF.single (R:=Dg) ⟨rfl,rfl,hc1⟩) Z (by decide) gT (λa3 c3 B3 hB3=>?_);refine aq ?_;refine⟨⟨a3,u.n+1,c3,B3,u.k6++[[x1,x2,x3]],u.bs++B6⟩,sM,?_,Nq hB3,by rw[yf,hk];exact hL.snoc hcs⟩;refine ah.skip _ (ah.flat ?_);simp only[So,AS];exact LO _ _ _ _}):p:=h
theorem ER(F:aw){Ns:List Node}(hf:(bQ Ns).Good)(bi:Qe Ns)(hpr:Prod Ns){g:Option Addr}{f C:Nat}(hN:a7 vj F g f C Ns)(root:Nat)(bl:root<Ns.length)(bn:(bQ Ns).leaf root=none)(ds:∀v,(bQ Ns).leaf v≠none->(bQ Ns).cg v=[])(fy:DZ Ns Ns.length<=200000000000){most:Nat}(dv:1<=most)(hm:most<=100) :
  Abs.Spec CC 125 [.agg ⟨[.slice g f C,.int .i64 root]⟩,.int .i64 most] F [] λF' v o=>∃B',o=[B']/\∃L c,Qi Ns root most L c/\
   (((L.length=most\/(c≠-1/\c<=L.length))/\∃a n d B k6 bs,v=.tuple ⟨[.slice a n d,.bool true]⟩/\B'=B++bs/\cu Dg E0 a n d B k6/\fN k6 bs L)\/
    (L.length<most/\(c=-1\/(L.length:Int)<c)/\v=.tuple ⟨[.slice none 0 0,.bool false]⟩)):=by
 have ch:=hN.len;have ba:=bi.FA;refine Abs.Spec.fn (n:=161) Tryz.func125 rfl rfl λown=>?_;refine AW.seq (AW.fj ?_);refine WT.bZ Z Z Z Z Z Z (λi2 f0=>?_);refine aq ?_;refine AW.cond Z (λh=>?_) (λ_=>?_)
 ·exfalso;simp at h;omega
 refine aq ?_;refine AW.draw (ps:=[(0,5),(0,6),(0,7),(3,6),(3,7),(4,6),(4,7)]) Z Z (aq ?_);refine WT.nL (by_:=24) hT Z Z Z Z Z Z Z Z Z Z Z Z zo (λlo f5=>?_);refine WT.makeMap Z Z Z Z (λis f6=>?_);refine WT.makeMap Z Z Z Z (λI f7=>?_);refine aq ?_;refine WT.bZ Z Z Z Z Z Z (λli f8=>?_);refine aq ?_;refine⟨Ob,?_⟩;refine gU ?_;have ck:∀(v:Nat) (ps:List Nat),(List.replicate f ([]:List Nat))[v]?=some ps->k8 F ps ((fe (bQ Ns) 0).lists v):=λv ps hv=>by
  have e:(fe (bQ Ns) 0).lists v=[]:=by unfold fe;simp
  rw[e];rw[SI] at hv;split at hv
  ·cases hv;exact .nil
  ·cases hv
 have h0:zJ (⟨li,g,f,C,root,most,lo,bif f==0 then 0 else 1,is,I⟩:LP) Ns F (⟨none,0,0,[],[],List.replicate f (.slice none 0 0),[],List.replicate f [],[],[],[],[],[],[]⟩:LR) (fe (bQ Ns) 0):=
  ⟨hN,(cu.dF _ _).gb,ri _,λi h1 h2=>by simp at h2,Al F f,by simp,ck,rfl,λc=>by simp[fe,Abs.look],rfl,Tu,.nil,λw=>rfl⟩
 refine AW.range (S:=LR) (λ_=>[]) (λr=>zP (⟨li,g,f,C,root,most,lo,bif f==0 then 0 else 1,is,I⟩:LP) r::[(i2,.cells false [.slice g f C,.int .i64 root])]::own)
  (λj r G=>zJ (⟨li,g,f,C,root,most,lo,bif f==0 then 0 else 1,is,I⟩:LP) Ns G r (fe (bQ Ns) j)) f (⟨none,0,0,[],[],List.replicate f (.slice none 0 0),[],List.replicate f [],[],[],[],[],[],[]⟩:LR)
  Z Z Z Z Z Z Z Z Z zo rfl rfl (λ_=>rfl) (λ_=>rfl) sM (ah.flat ?_) h0 ?_ ?_
 ·simp only[zP,lB,Pc,lN,So,SR,Uf];exact List.Perm.cons _ (G0 _ _ _ _)
 ·intro j r F1 d1 hj hl;obtain⟨x,hx⟩:∃x,Ns[j]?=some x:=⟨_,gE zo⟩;obtain⟨ps,ac⟩:∃ps,r.nW[j]?=some ps:=⟨_,gE (by have:=hl.td;show j<r.nW.length;rw[this];exact hj)⟩;obtain⟨va,vn,vc,VB,b1,b2,ao,hbs,hVB,av⟩:=hl.rows.split ac;have ga:=hl.rows.len;have fb:r.nW.length=f:=hl.td;have U:(bQ Ns).leaf j=if x.key.sym.term=true then some x.key.sym.n else none:=by unfold bQ;simp only[hx]
  have d2:=hl.nodes;refine aq ?_;refine WT.bk hT d2 Z Z Z Z Z Z Z Z Z zo (λz hz b7 cp d3 d4 d5 d6 d7 ad=>?_);rw[hx] at hz;cases hz;obtain⟨pa,pn,pc,rfl,ct⟩:=ad;refine aq ?_;refine WT.aG hT Z Z Z Z Z Z (λi8 gl=>?_);refine aq ?_;refine AW.cond Z (λht=>?_) (λht=>?_)
  ·rw[nw ht] at U;rw[show zP (⟨li,g,f,C,root,most,lo,bif f==0 then 0 else 1,is,I⟩:LP) r=zP (⟨li,g,f,C,root,most,lo,bif f==0 then 0 else 1,is,I⟩:LP) { r with bs:=b1++(VB++b2) } by rw[<-hbs]];refine AW.le (ah.cons _ (ah.trans (ah.cons _ (ah.cons _ (m9 b1 VB b2 _))) (nr (⟨li,g,f,C,root,most,lo,bif f==0 then 0 else 1,is,I⟩:LP) { r with bs:=b1++(VB++b2) } _))) (AW.draw (ps:=[(3,9),(3,10)]) Z Z (gU ?_));refine WT.bZ Z Z Z Z Z Z (λi56 fd=>?_);refine WT.aS hT Z Z Z Z Z Z Z Z Z Z Z Z Z Z (λi57 fi=>?_)
   refine WT.cz (j:=j) (s:=1) hT Z Z Z Z Z Z Z Z Z hj (WT.storeAt hT 4 0 Z Z Z Z Z Z Z Z Z Z (by show 0+j*1<r.vs.length;omega) Z Z ?_);rw[show 0+j*1=j by omega];refine WT.ay 1 Z Z (λF2 bo eb=>?_);refine gU ?_;refine⟨Ob,?_⟩;have J:=hl.mono bo;have ec:(bQ Ns).leaf j=some x.key.sym.n:=U;have a2:Sh F2 i56 (.mk (-1) x.key.sym.n []):=.mk (ps:=[]) (eb i56 _ me) (a7.dF _ _) .nil;have cv:cu jy F1 (some ⟨i57,0,none⟩) 1 1 [(i57,.cells false [.pointer (some ⟨i56,0,none⟩)])] [i56]:=⟨rfl,.inr ⟨i57,_,rfl,rfl,rfl,aF.single (R:=jy) rfl,by decide⟩⟩
   refine⟨{ r with vs:=r.vs.set j (.slice (some ⟨i57,0,none⟩) 1 1),bs:=b1++([(i57,.cells false [.pointer (some ⟨i56,0,none⟩)])]++b2),nW:=r.nW.set j [i56] },sM,?_,⟨J.nodes,J.q,J.qp,J.qh,(av _ _ _ _ _ cv).any,by rw[Su];exact J.td,λv us hv=>?_,J.se,J.sl,J.we,J.wn,J.ws,J.wg⟩⟩
   ·refine ah.trans (ah.trans (fM (⟨li,g,f,C,root,most,lo,bif f==0 then 0 else 1,is,I⟩:LP) _ _) (ah.cons _ (ah.cons _ (tU b1 _ b2 _)))) ?_
    refine ah.trans (b:=[(i57,.cells false [.pointer (some ⟨i56,0,none⟩)])]::((li,.cells false [.slice g f C,.int .i64 root,.int .i64 most,.slice (some ⟨lo,0,none⟩) f (bif f==0 then 0 else 1),.map (some is),.map (some I),.slice r.qa r.qn r.qc])::r.qB)::[(lo,.cells false (r.vs.set j (.slice (some ⟨i57,0,none⟩) 1 1)))]::(b1++b2)::[(is,.map r.se)]::[(I,.map r.we)]::r.MF::[(i2,.cells false [.slice g f C,.int .i64 root])]::own) (ah.flat ?_) (ah.cons _ (ah.skip _ (ah.skip _ (ah.cons _ (ah.cons _ (ah.cons _ (ah.skip _ oR)))))));simp only[So]
    exact DR _ _ _ _ _
   ·have hv:(r.nW.set j [i56])[v]?=some us:=hv;by_cases e:v=j
    ·subst e;rw[sj zo] at hv;cases hv;rw[Nn ec];exact .cons a2 .nil
    ·rw[tj (λe2=>e e2.symm)] at hv;rw[Nj e];exact J.trees v us hv
  ·rw[mb (by rw[show x.key.sym.term=false from ht];simp)] at U;refine aq ?_;refine⟨r,sM,ah.skip _ oR,?_⟩;show zJ (⟨li,g,f,C,root,most,lo,bif f==0 then 0 else 1,is,I⟩:LP) Ns _ r (fe (bQ Ns) (j+1));rw[I1 U];exact hl
 intro r0 F1 d1 br;have br:zJ (⟨li,g,f,C,root,most,lo,bif f==0 then 0 else 1,is,I⟩:LP) Ns F1 r0 (fe (bQ Ns) f):=br;have cx:=Ky (bQ Ns) dv;rw[show (bQ Ns).n=f from ch.symm] at cx;refine aq ?_;refine AW.range (S:=HJ) (λ_=>[]) (λz=>zP (⟨li,g,f,C,root,most,lo,bif f==0 then 0 else 1,is,I⟩:LP) z.r::[(i2,.cells false [.slice g f C,.int .i64 root])]::own)
  (λj z G=>zJ (⟨li,g,f,C,root,most,lo,bif f==0 then 0 else 1,is,I⟩:LP) Ns G z.r z.s/\Inv (bQ Ns) most z.s [] [] []/\z.s.lists=(fe (bQ Ns) f).lists/\z.s.seen.length<=DZ Ns j/\∀v,v<j->(bQ Ns).leaf v=none->∀p,p<((bQ Ns).cg v).length->(⟨v,p,0,0,0,0⟩:aO)∈z.s.seen) f ⟨r0,fe (bQ Ns) f⟩
  Z Z Z Z Z Z Z Z Z zo rfl rfl (λ_=>rfl) (λ_=>rfl) sM oR ⟨br,cx,rfl,BY _,λv hv=>by omega⟩ ?_ ?_
 ·intro j z F2 bo hj hP;obtain⟨ul,uI,uL,un,ub⟩:=hP;obtain⟨x,hx⟩:∃x,Ns[j]?=some x:=⟨_,gE zo⟩;have em:=ul.nodes;have bv:(bQ Ns).cg j=x.cg:=by unfold bQ;simp only[hx]
  have en:=DK hx;have fl:=Kg (Ns:=Ns) (show j+1<=Ns.length by omega);have gm:=bi.cg x (gM hx);refine aq ?_;refine WT.bk hT em Z Z Z Z Z Z Z Z Z zo (λy hy b7 cp d3 d4 d5 d6 d7 ad=>?_);rw[hx] at hy;cases hy;obtain⟨pa,pn,pc,rfl,ct⟩:=ad;have ag:=ct.len;refine aq ?_;refine WT.aG hT Z Z Z Z Z Z (λi10 fr=>?_);refine aq ?_
  refine AW.range (S:=HJ) (λ_=>[]) (λz=>[(i10,.cells false [.bool x.key.sym.term,.int .i64 x.key.sym.n,.int .i64 x.key.fJ,.int .i64 x.key.to,.slice pa pn pc])]::zP (⟨li,g,f,C,root,most,lo,bif f==0 then 0 else 1,is,I⟩:LP) z.r::[(i2,.cells false [.slice g f C,.int .i64 root])]::own)
   (λq z G=>zJ (⟨li,g,f,C,root,most,lo,bif f==0 then 0 else 1,is,I⟩:LP) Ns G z.r z.s/\Inv (bQ Ns) most z.s [] [] []/\z.s.lists=(fe (bQ Ns) f).lists/\z.s.seen.length<=DZ Ns j+q/\(∀v,v<j->(bQ Ns).leaf v=none->∀p,p<((bQ Ns).cg v).length->(⟨v,p,0,0,0,0⟩:aO)∈z.s.seen)/\∀p,p<q->(⟨j,p,0,0,0,0⟩:aO)∈z.s.seen) pn z
   Z Z Z Z Z Z Z Z Z zo rfl rfl (λ_=>rfl) (λ_=>rfl) sM oR ⟨ul,uI,uL,un,ub,λp hp=>by omega⟩ ?_ ?_
  ·intro q z F3 bx hq hP;obtain⟨vl,vI,vL,vn,vb,vc⟩:=hP;have es:(bQ Ns).leaf j=none:=by
    cases he:(bQ Ns).leaf j with
    | none=>rfl
    | some t=>
     have:=ds j (by rw[he];simp);rw[bv] at this;rw[this] at ag;simp at ag;omega
   have hc:lJ (bQ Ns) most ⟨j,q,0,0,0,0⟩:=by
    refine⟨by show j<Ns.length;omega,es,⟨_,by unfold eQ;rw[bv];exact gE (show q<x.cg.length by omega)⟩,λr0 h0=>?_,λp _ i r0 _ h0=>?_⟩
    ·simp[aO.bV] at h0;omega
    ·have:=gM h0;simpa [aO.bV] using this
   have bd:∀T,cP (bQ Ns) z.s.lists ⟨j,q,0,0,0,0⟩=some T->∀v,(bQ Ns).leaf v=none->∀x∈z.s.lists v,Df x T:=λT _ v hv x hx=>by
    rw[vL,uo hv] at hx;cases hx
   refine aq ?_;refine WT.cC 1 Tryz.func176 Z Z Z Z Z Z Z (λ_=>rfl) (vQ F3 vl hf vI hc bd (by show most<=1000;omega) zo ba (.pointer none) rfl) (λF4 v B4 c1 hv=>?_);obtain⟨r',rfl,ex⟩:=hv;refine aq ?_;obtain⟨f1,f2,f3,f4⟩:=vz (bQ Ns) z.s ⟨j,q,0,0,0,0⟩;refine⟨⟨r',iV (bQ Ns) z.s ⟨j,q,0,0,0,0⟩⟩,sM,ah.refl _,ex,vI.KN hf hc bd,f1.trans vL,by show (iV _ _ _).seen.length<=DZ Ns j+(q+1);omega,λv hv hl p hp=>f2 _ (vb v hv hl p hp),λp hp=>?_⟩;rcases AT p q with h1 | h1
   ·exact f2 _ (vc p h1)
   ·obtain rfl:p=q:=by omega
    exact f3
  ·intro z F3 bx hP;obtain⟨vl,vI,vL,vn,vb,vc⟩:=hP;refine⟨z,sM,ah.skip _ oR,vl,vI,vL,by rw[en,<-ag];exact vn,λv hv hl p hp=>?_⟩;rcases AT v j with h1 | h1
   ·exact vb v h1 hl p hp
   ·obtain rfl:v=j:=by omega
    rw[bv] at hp;have hp:p<x.cg.length:=hp;exact vc p (by rw[ag];exact hp)
 intro z F2 bo hP;obtain⟨ul,uI,uL,un,ub⟩:=hP;have b0:nE (bQ Ns) z.s:=λv hv hl p hp=>ub v (by have:v<Ns.length:=hv;omega) hl p hp;refine aq ?_;refine P7 (S:=Q3) (λ_=>[]) (λz=>zP (⟨li,g,f,C,root,most,lo,bif f==0 then 0 else 1,is,I⟩:LP) z.r::[(i2,.cells false [.slice g f C,.int .i64 root])]::own) (λz G=>zJ (⟨li,g,f,C,root,most,lo,bif f==0 then 0 else 1,is,I⟩:LP) Ns G z.r z.s/\BB (bQ Ns) root most (z.s.lists root)) ?_ ?_
 ·refine AW.block ?_;refine AW.cr (S:=Q3) (λ_=>[]) (λz=>zP (⟨li,g,f,C,root,most,lo,bif f==0 then 0 else 1,is,I⟩:LP) z.r::[(i2,.cells false [.slice g f C,.int .i64 root])]::own)
   (λz G=>zJ (⟨li,g,f,C,root,most,lo,bif f==0 then 0 else 1,is,I⟩:LP) Ns G z.r z.s/\Inv (bQ Ns) most z.s z.done [] []/\nE (bQ Ns) z.s/\z.s.seen.length<=DZ Ns Ns.length+4*Mo z.s.lists f) (λz=>DZ Ns Ns.length+4*(f*most)+1-z.done.length) ⟨z.r,z.s,[]⟩
   sM oR ⟨ul,uI,b0,by show z.s.seen.length<=DZ Ns Ns.length+4*Mo z.s.lists f;rw[ch] at un;omega⟩ ?_
  intro y F3 bx b3;obtain⟨yl,yI,yb,yn⟩:=b3;have fs:=GA yI.len f;have g4:y.done.length<=y.s.seen.length:=pK _ _ yI.FQ yI.nX;have g5:f*most<=1000000*100:=TU zo hm;have g6:=yl.q.len;have g7:=yl.qp.length_eq;have g8:=yI.N0;obtain⟨ps,ac⟩:∃ps,y.r.nW[root]?=some ps:=⟨_,gE (by have:y.r.nW.length=f:=yl.td;omega)⟩;obtain⟨va,vn,vc,VB,b1,b2,ao,hbs,hVB,av⟩:=yl.rows.split ac;have htr:=yl.trees root ps ac;have b4:=hVB.len;have az:=htr.len;have ey:=yI.len root;refine aq ?_
  refine WT.le (nr (⟨li,g,f,C,root,most,lo,bif f==0 then 0 else 1,is,I⟩:LP) y.r _) (WT.split 87 Z (λa4=>?_) (λa4=>?_));rotate_left
  ·have a4:y.r.qn=0:=by simp at a4;omega
   refine gU ?_;refine AW.cond Z (λh=>(by cases h)) (λ_=>?_);refine AW.exit ⟨y,sM,fM (⟨li,g,f,C,root,most,lo,bif f==0 then 0 else 1,is,I⟩:LP) y.r _,yl,yI.Ca hf yb bn (.inr λa ha=>?_)⟩;have:y.s.q=[]:=D1 zo;rw[this] at ha;cases ha
  have hd:0<y.r.qn:=by simpa using a4
  refine xu ?_;refine WT.cz (j:=root) (s:=1) hT Z Z Z Z Z Z Z Z Z (show root<f by omega) (WT.loadAt hT 1 Z Z Z Z Z Z me Z Z (v:=.slice va vn vc) (by rw[yo,R9];exact ao) (gU ?_));refine AW.cond Z (λhc=>?_) (λhc=>?_);rotate_left
  ·have hc:most<=vn:=by simp at hc;omega
   refine AW.exit ⟨y,sM,fM (⟨li,g,f,C,root,most,lo,bif f==0 then 0 else 1,is,I⟩:LP) y.r _,yl,yI.Ca hf yb bn (.inl zo)⟩
  have hc:vn<most:=by simp at hc;omega
  obtain⟨qn,c2⟩:∃qn,y.r.qn=qn+1:=⟨y.r.qn-1,by omega⟩;have yq:=yl.q;rw[c2] at yq;rw[c2];refine xu ?_;refine AW.block (xu ?_);refine WT.Ck hT Z Z Z Z Z Z (WT.cC 0 Tryz.func177 Z Z Z Z Z Z Z (λ_=>rfl) (Ji F3 (Pc (⟨li,g,f,C,root,most,lo,bif f==0 then 0 else 1,is,I⟩:LP)) yq zo yl.qh) (λF4 v B4 c1 hv=>?_));obtain⟨a5,Q2,⟨c,T⟩,l,rfl,e0,b6,b8,bf,rfl,tp,rfl,a2,hg⟩:=hv;have P:=yl.mono c1;have a8:Inv (bQ Ns) most { y.s with q:=(c,T)::Q2 } y.done [] []:=yI.perm (yl.qp.symm.trans b6)
  have J:zJ (⟨li,g,f,C,root,most,lo,bif f==0 then 0 else 1,is,I⟩:LP) Ns F4 { y.r with qn:=qn,qB:=a5,Q:=Q2 } { y.s with q:=Q2 }:=⟨P.nodes,e0,ri _,b8,P.rows,P.td,P.trees,P.se,P.sl,P.we,P.wn,P.ws,P.wg⟩;refine WT.Ib hT Z Z Z Z Z Z ?_;unfold gX;refine xu ?_;refine WT.aG hT Z Z Z Z Z Z (λi12 fv=>?_);have c4:=a2;cases a2 with
  | @mk _ tr tm c5 ta tn tc hh g1 g2 g3=>
  refine xu ?_;refine AW.cond Z (λae=>?_) (λae=>?_)
  ·have ae:5000<(Tree.mk tr tm c5).pre.length:=by simp at ae;omega
   refine AW.exit ⟨⟨{ y.r with qn:=qn,qB:=a5,Q:=Q2 },{ y.s with q:=Q2 },[]⟩,sM,ah.skip _ (fM (⟨li,g,f,C,root,most,lo,bif f==0 then 0 else 1,is,I⟩:LP) { y.r with qn:=qn,qB:=a5,Q:=Q2 } _),J,a8.Ca hf yb bn (.inr λa ha=>?_)⟩;rcases IN.1 ha with rfl | ha
   ·exact ae
   ·have:=wM (bf a ha);dsimp only at this;omega
  ·have ae:(Tree.mk tr tm c5).pre.length<=5000:=by simp at ae;omega
   have ap:c.node<f:=by
    have:=(a8.ok c (a8.xe (c,_) me).1).node;have:c.node<Ns.length:=this;omega
   refine xu ?_;refine WT.le (ah.cons _ (fM (⟨li,g,f,C,root,most,lo,bif f==0 then 0 else 1,is,I⟩:LP) { y.r with qn:=qn,qB:=a5,Q:=Q2 } _)) (WT.cC 1 Tryz.func178 Z Z Z Z Z Z Z (λ_=>rfl) (Dm F4 J hf a8 yb bf ae c4 (by show most<=1000;omega) zo ba) (λF5 v B5 hF5 hv=>?_));obtain⟨r',s',rfl,e3,ar,e4,ca⟩:=hv;have ar:Inv (bQ Ns) most s' (c::y.done) [] []:=ar;have a9:s'.seen.length<=DZ Ns Ns.length+4*Mo s'.lists f:=by
    rcases ca with ⟨_,e1,e2⟩ | ⟨_,e1,e2⟩
    ·rw[e1,e2];exact yn
    ·rw[e1,Ia,nw ap];omega
   have c8:(c::y.done).length<=s'.seen.length:=pK _ _ ar.FQ ar.nX;have e6:=GA ar.len f;refine aq ?_;refine⟨⟨r',s',c::y.done⟩,?_,sM,ah.skip _ oR,e3,ar,e4,a9⟩;show DZ Ns Ns.length+4*(f*most)+1-(c::y.done).length<DZ Ns Ns.length+4*(f*most)+1-y.done.length;simp only[If] at c8 |-;omega
 intro y F3 bx b3;obtain⟨yl,yF⟩:=b3;obtain⟨ps,ac⟩:∃ps,y.r.nW[root]?=some ps:=⟨_,gE (by have:y.r.nW.length=f:=yl.td;omega)⟩;obtain⟨va,vn,vc,VB,b1,b2,ao,hbs,hVB,av⟩:=yl.rows.split ac;have htr:=yl.trees root ps ac;have b4:=hVB.len;have az:=htr.len;have ey:=yF.len;refine aq ?_;refine WT.le (nr (⟨li,g,f,C,root,most,lo,bif f==0 then 0 else 1,is,I⟩:LP) y.r _) (WT.cz (j:=root) (s:=1) hT Z Z Z Z Z Z Z Z Z (show root<f by omega) (WT.loadAt hT 1 Z Z Z Z Z Z me Z Z (v:=.slice va vn vc) (by rw[yo,R9];exact ao) (xu ?_)))
 have e7:=yl.nodes;refine WT.aX Tryz.func89 Z Z Z Z Z Z (yE _ bi hpr e7 root bl) (λv hv=>?_);obtain⟨cn,rfl,ap⟩:=hv;refine xu ?_;refine WT.split 132 Z (λhc=>?_) (λhc=>?_);rotate_left
 ·have hc:vn=most:=by simp at hc;omega
  refine xu ?_;refine AW.cond Z (λh=>(by cases h)) (λ_=>?_);refine xu ?_;refine WT.cz (j:=root) (s:=1) hT Z Z Z Z Z Z Z Z Z (show root<f by omega) (WT.loadAt hT 1 Z Z Z Z Z Z me Z Z (v:=.slice va vn vc) (by rw[yo,R9];exact ao) (xu ?_))
  refine AW.range (S:=Q9) (λs=>[(16,.slice s.a s.n s.c)]) (λs=>s.B::s.bs::((li,.cells false [.slice g f C,.int .i64 root,.int .i64 most,.slice (some ⟨lo,0,none⟩) f (bif f==0 then 0 else 1),.map (some is),.map (some I),.slice y.r.qa y.r.qn y.r.qc])::y.r.qB)::[(lo,.cells false y.r.vs)]::y.r.bs::[(is,.map y.r.se)]::[(I,.map y.r.we)]::y.r.MF::[(i2,.cells false [.slice g f C,.int .i64 root])]::own)
   (λj s G=>cu Dg E0 s.a s.n s.c s.B s.k6/\fN s.k6 s.bs ((y.s.lists root).take j)) vn ⟨none,0,0,[],[],[]⟩
   Z Z Z Z Z Z Z Z Z zo rfl rfl (λ_=>rfl) (λ_=>rfl) sM (ah.flat (ri _)) ⟨cu.dF _ _,.nil⟩ ?_ ?_
  ·exact P6
  ·intro u F5 hF5 hP5;obtain⟨hb,hL⟩:=hP5;rw[pf zo] at hL;refine aq ?_;refine AW.le (own2:=(u.B++u.bs)::own) (ah.trans (ah.flat (Tz (by simp))) (ah.cons _ (ah.cons _ (ah.skip _ (ah.skip _ (ah.skip _ (ah.skip _ (ah.skip _ (ah.skip _ (ah.skip _ oR)))))))))) (AW.ret ⟨_,[_],⟨_,_,rfl,⟨_,_,rfl,rfl,rfl⟩,rfl⟩,bw,_,rfl,_,_,⟨yF,ap⟩,.inl ⟨(.inl zo),_,_,_,u.B,u.k6,u.bs,rfl,rfl,hb,hL⟩⟩)
 have hc:vn<most:=by simpa using hc
 refine xu ?_;refine WT.split 135 Z (λaf=>?_) (λaf=>?_)
 ·have af:cn=-1:=by simpa using af
  refine xu ?_;refine AW.cond Z (λ_=>?_) (λh=>(by cases h));refine xu ?_;refine AW.le (own2:=[]::own) (ah.trans (ah.flat (ri _)) (ah.skip _ (ah.skip _ (ah.skip _ (ah.skip _ (ah.skip _ (ah.skip _ (ah.skip _ oR)))))))) (AW.ret ⟨_,[_],⟨_,_,rfl,⟨_,_,rfl,rfl,rfl⟩,rfl⟩,bw,_,rfl,_,_,⟨yF,ap⟩,.inr ⟨by omega,.inl af,rfl⟩⟩)
 have af:cn≠-1:=by simpa using af
 refine xu ?_;refine AW.cond Z (λhc3=>?_) (λhc3=>?_)
 ·have hc3:(vn:Int)<cn:=by simpa using hc3
  refine xu ?_;refine AW.le (own2:=[]::own) (ah.trans (ah.flat (ri _)) (ah.skip _ (ah.skip _ (ah.skip _ (ah.skip _ (ah.skip _ (ah.skip _ (ah.skip _ oR)))))))) (AW.ret ⟨_,[_],⟨_,_,rfl,⟨_,_,rfl,rfl,rfl⟩,rfl⟩,bw,_,rfl,_,_,⟨yF,ap⟩,.inr ⟨by omega,.inr (by rw[az,<-b4];exact hc3),rfl⟩⟩)
 ·have hc3:cn<=(vn:Int):=by simpa using hc3
  refine xu ?_;refine WT.cz (j:=root) (s:=1) hT Z Z Z Z Z Z Z Z Z (show root<f by omega) (WT.loadAt hT 1 Z Z Z Z Z Z me Z Z (v:=.slice va vn vc) (by rw[yo,R9];exact ao) (xu ?_))
  refine AW.range (S:=Q9) (λs=>[(16,.slice s.a s.n s.c)]) (λs=>s.B::s.bs::((li,.cells false [.slice g f C,.int .i64 root,.int .i64 most,.slice (some ⟨lo,0,none⟩) f (bif f==0 then 0 else 1),.map (some is),.map (some I),.slice y.r.qa y.r.qn y.r.qc])::y.r.qB)::[(lo,.cells false y.r.vs)]::y.r.bs::[(is,.map y.r.se)]::[(I,.map y.r.we)]::y.r.MF::[(i2,.cells false [.slice g f C,.int .i64 root])]::own)
   (λj s G=>cu Dg E0 s.a s.n s.c s.B s.k6/\fN s.k6 s.bs ((y.s.lists root).take j)) vn ⟨none,0,0,[],[],[]⟩
   Z Z Z Z Z Z Z Z Z zo rfl rfl (λ_=>rfl) (λ_=>rfl) sM (ah.flat (ri _)) ⟨cu.dF _ _,.nil⟩ ?_ ?_
  ·exact P6
  ·intro u F5 hF5 hP5;obtain⟨hb,hL⟩:=hP5;rw[pf zo] at hL;refine aq ?_;refine AW.le (own2:=(u.B++u.bs)::own) (ah.trans (ah.flat (Tz (by simp))) (ah.cons _ (ah.cons _ (ah.skip _ (ah.skip _ (ah.skip _ (ah.skip _ (ah.skip _ (ah.skip _ (ah.skip _ oR)))))))))) (AW.ret ⟨_,[_],⟨_,_,rfl,⟨_,_,rfl,rfl,rfl⟩,rfl⟩,bw,_,rfl,_,_,⟨yF,ap⟩,.inl ⟨(.inr ⟨af,by rw[az,<-b4];exact hc3⟩),_,_,_,u.B,u.k6,u.bs,rfl,rfl,hb,hL⟩⟩)
theorem Gc{g:aj}{w:List Nat}{E f:List (List Nat)}(h:gQ g w E)(j:gQ g w f):E=f:=by refine UR (by rw[h.ok.size,j.ok.size]) λn l o=>?_;have I:=h.ok.row _ (TS l);have J:=j.ok.row _ (TS o);refine UR (by rw[I,J]) λi t C=>?_;refine TJ λq=>?_;rw[Td];have P:(E[n][i]).testBit q=true↔nT g w ⟨false,n⟩ i q:=by{rw[<-h.iff n i q zo];constructor;{intro r;exact⟨_,_,gE l,gE t,r⟩};{rintro⟨row,x,r1,r2,r3⟩;rw[gE l] at r1;cases r1;rw[gE t] at r2;cases r2;exact r3}};have R:(f[n][i]).testBit q=true↔nT g w ⟨false,n⟩ i q:=by{rw[<-j.iff n i q zo];constructor;{intro r;exact⟨_,_,gE o,gE C,r⟩};{rintro⟨row,x,r1,r2,r3⟩;rw[gE o] at r1;cases r1;rw[gE C] at r2;cases r2;exact r3}};rw[P,R]
mutual
theorem aN.oA{g:aj}{w:List Nat}:∀{t:Tree} {s:Sym} {i j f:Nat},aN g w s t i j->aN g w s t i f->j=f
 | .mk _ _ _,_,_,_,_,.leaf _,h=>by cases h with| leaf _=>{rfl}
 | .mk _ _ ks,_,_,_,_,.node h p,l=>by{generalize hs:(⟨false,_⟩:Sym)=s at l;cases l with| node o r=>{rw[h] at o;cases o;exact aE.oA p r}}
theorem aE.oA{g:aj}{w:List Nat}:∀{ts:List Tree} {l:List Sym} {i j f:Nat},aE g w l ts i j->aE g w l ts i f->j=f
 | [],_,_,_,_,.nil,h=>by cases h;rfl
 | _::_,_,_,_,_,.cons o p,h=>by{cases h with|cons r t=>{obtain rfl:=aN.oA o r;exact aE.oA p t}}
end
mutual
theorem aN.dec{g:aj}{w:List Nat}:∀{t u:Tree} {s:Sym} {i j r C:Nat} {x y:List Int},aN g w s t i j->aN g w s u r C->t.pre++x=u.pre++y->t=u/\x=y
 | .mk _ _ _,u,_,_,_,_,_,x,y,.leaf _,h,e=>by{cases h with| leaf _=>{have e:(-1:Int)::([]++x)=-1::([]++y):=e;exact⟨rfl,by simpa using e⟩}}
 | .mk _ _ ks,u,_,_,_,_,_,x,y,.node h I,o,e=>by{generalize hs:(⟨false,_⟩:Sym)=s at o;cases o with| leaf _=>cases hs| @node k' R f _ _ p J=>{have e:((_:Nat):Int)::(bT ks++x)=(k':Int)::(bT f++y):=e;injection e with l P;have l:=Int.ofNat_inj.1 l;subst l;rw[h] at p;cases p;obtain⟨rfl,rfl⟩:=aE.dec I J P;exact⟨rfl,rfl⟩}}
theorem aE.dec{g:aj}{w:List Nat}:∀{ts us:List Tree} {l:List Sym} {i j f o:Nat} {x y:List Int},aE g w l ts i j->aE g w l us f o->bT ts++x=bT us++y->ts=us/\x=y
 | [],us,_,_,_,_,_,x,y,.nil,h,e=>by{cases h;exact⟨rfl,by simpa [bT] using e⟩}
 | t::ts,us,_,_,_,_,_,x,y,.cons p r,h,e=>by{cases h with| @cons _ _ u us _ _ _ C I=>{have e:(t.pre++bT ts)++x=(u.pre++bT us)++y:=e;rw[AS,AS] at e;obtain⟨rfl,J⟩:=aN.dec p C e;obtain⟨rfl,rfl⟩:=aE.dec r I J;exact⟨rfl,rfl⟩}}
end
section
variable {g:aj}{w:List Nat}{E:List (List Nat)}{root:Key}{S:List Key}
theorem mU{v:Nat}{k:Key}(hk:S[v]?=some k):(bQ (S.map (mkNode g w E S))).leaf v=(if k.sym.term=true then some k.sym.n else none)/\(bQ (S.map (mkNode g w E S))).cg v=(bK g w E k).map (eV S):=by unfold bQ;simp only[zm,hk];exact⟨rfl,rfl⟩
theorem EU{to:Nat}:∀{l:List Sym} {i:Nat} {ks:List Key} {ts:List Tree},(∀q∈ks,q∈S)->rI (bQ (S.map (mkNode g w E S))) (ks.map (place S)) ts->ks∈splits w E to l i->
  (∀(q:Key) (t:Tree),q∈ks->t∈ts->NT (bQ (S.map (mkNode g w E S))) (place S q) t->aN g w q.sym t q.fJ q.to)->aE g w l ts i to:=by intro l;induction l with|nil=>{intro i ks ts p f h j;unfold splits at h;split at h;{rename_i e;subst e;rw[n0.1 h] at f;cases f;exact .nil};{cases h}}|cons s l r=>{intro i ks ts p f h j;unfold splits at h;obtain⟨m,_,hm⟩:=S9.1 h;split at hm;{obtain⟨C,I,rfl⟩:=tx.1 hm;cases f with|cons J P=>{exact .cons (j ⟨s,i,m⟩ _ me me J) (r (λq o=>p q (ma _ o)) P I λq t R U h7=>j q t (ma _ R) (ma _ U) h7)}};{cases hm}}
theorem NT.tree(J:nV g w E root S)(j:wU w E root):∀(N:Nat) (T:Tree) (k:Key),T.pre.length<N->k∈S->NT (bQ (S.map (mkNode g w E S))) (place S k) T->aN g w k.sym T k.fJ k.to
 | 0,_,_,h,_,_=>by omega
 | N+1,T,k,hN,hk,h=>by{have P:=iM hk;obtain⟨hl,hp⟩:=mU (g:=g) (w:=w) (E:=E) P;cases h with| @leaf _ t h1 l=>{rw[hl] at l;split at l;{rename_i o;cases l;have f:=mg.1 ((J.reach k hk).step j);unfold Step at f;rw[nw o] at f;obtain⟨⟨st,sn⟩,kf,kt⟩:=k;simp only at o f |-;subst o;obtain⟨I,rfl⟩:=f;exact .leaf I};{cases l}}| @node _ p ts h1 l I h4=>{rw[hp] at I;obtain⟨kp,C,rfl⟩:=tx.1 I;obtain⟨r,hr,e1,e2,e3⟩:=dB.1 C;have i:∀q∈kp.kids,q∈S:=λq R=>J.closed k hk kp C q R;have U:=EU i h4 e3 (λq t R hm o=>NT.tree J j N t q (by{have h5:=kZ hm;have h6:(Tree.mk ((eV S kp).aB:Int) 0 ts).pre.length=(bT ts).length+1:=rfl;omega}) (i q R) o);have:=aN.node (g:=g) (w:=w) (k:=kp.aB) hr U;obtain⟨⟨st,sn⟩,kf,kt⟩:=k;simp only at e1 e2 this |-;rw[e2,<-e1];exact this}}
theorem IF(C:∀(T:Tree) (k:Key),k∈S->NT (bQ (S.map (mkNode g w E S))) (place S k) T->aN g w k.sym T k.fJ k.to){to:Nat} :
  ∀{l:List Sym} {i:Nat} {ks f:List Key} {ts:List Tree},ks∈splits w E to l i->f∈splits w E to l i->(∀q∈ks,q∈S)->(∀q∈f,q∈S)->
   rI (bQ (S.map (mkNode g w E S))) (ks.map (place S)) ts->rI (bQ (S.map (mkNode g w E S))) (f.map (place S)) ts->ks=f:=by intro l;induction l with|nil=>{intro i ks f ts h p _ _ _ _;unfold splits at h p;split at h;{rename_i e;rw[nw e] at p;rw[n0.1 h,n0.1 p]};{cases h}}|cons s l P=>{intro i ks f ts h p I r R t;unfold splits at h p;obtain⟨m,_,hm⟩:=S9.1 h;obtain⟨m2,_,j⟩:=S9.1 p;split at hm;{split at j;{obtain⟨U,h3,rfl⟩:=tx.1 hm;obtain⟨J,h4,rfl⟩:=tx.1 j;cases R with|cons a1 a2=>{cases t with|cons b1 b2=>{have c1:=C _ ⟨s,i,m⟩ (I _ me) a1;have c2:=C _ ⟨s,i,m2⟩ (r _ me) b1;obtain rfl:m=m2:=aN.oA c1 c2;rw[P h3 h4 (λq o=>I q (ma _ o)) (λq o=>r q (ma _ o)) a2 b2]}}};{cases j}};{cases hm}}
theorem D6(g:aj)(w:List Nat)(E:List (List Nat))(k:Key):(bK g w E k).Nodup:=by rw[Sw];refine(tf g w E k).imp ?_;rintro a b f rfl;have i:∀l:List Key,¬OL l l:=by{intro l;induction l with|nil=>{intro h;cases h}|cons q l j=>{intro h;cases h with| here _ _ h=>omega| next h=>{exact j h}}};rcases f with h | h;{omega};{exact i _ h.2}
theorem Nk(hg:Valid g)(P:nV g w E root S)(al:wU w E root):(bQ (S.map (mkNode g w E S))).Good:=by have R:(bQ (S.map (mkNode g w E S))).n=S.length:=by{unfold bQ;simp};have hS:∀(T:Tree) (k:Key),k∈S->NT (bQ (S.map (mkNode g w E S))) (place S k) T->aN g w k.sym T k.fJ k.to:=λT k hk h=>NT.tree P al _ T k (Sp _) hk h;have at_:∀v,v<(bQ (S.map (mkNode g w E S))).n->∃k,S[v]?=some k/\k∈S/\place S k=v:=λv J=>by{rw[R] at J;have U:S[v]?=some S[v]:=gE J;exact⟨_,U,gM U,zj P.nodup U⟩};have t:∀v T,NT (bQ (S.map (mkNode g w E S))) v T->v<(bQ (S.map (mkNode g w E S))).n:=λv T h=>by{cases h<;>assumption};refine⟨λv J p hp=>?_,λv T T' h h' e=>?_,λv J hl a b p q ha hb he ts h h'=>?_⟩;{obtain⟨k,hk,f,C⟩:=at_ v J;obtain⟨_,I⟩:=mU (g:=g) (w:=w) (E:=E) hk;rw[I] at hp;obtain⟨kp,ac,rfl⟩:=tx.1 hp;obtain⟨r,hr,e1,e2,e3⟩:=dB.1 ac;have ar:=(hg.right r (gM hr)).2.1;have av:=lF e3;refine⟨by show (kp.kids.map _).length<=4;rw[sh,av];exact ar,λu hu=>?_⟩;obtain⟨q,hq,rfl⟩:=tx.1 (show u∈kp.kids.map (place S) from hu);rw[R];exact TX (P.closed k f kp ac q hq)};{obtain⟨k,hk,f,C⟩:=at_ v (t v T h);subst C;have U:=hS T k f h;have h2:=hS T' k f h';exact(aN.dec (x:=[]) (y:=[]) U h2 (by rw[e])).1};{obtain⟨k,hk,f,C⟩:=at_ v J;obtain⟨_,I⟩:=mU (g:=g) (w:=w) (E:=E) hk;rw[I,zm] at ha hb;cases j:(bK g w E k)[a]? with|none=>{rw[j] at ha;cases ha}|some kp=>{cases i:(bK g w E k)[b]? with|none=>{rw[i] at hb;cases hb}|some kq=>{rw[j] at ha;rw[i] at hb;obtain rfl:=mm ha;obtain rfl:=mm hb;have l:=gM j;have o:=gM i;obtain⟨r,hr,e1,e2,e3⟩:=dB.1 l;obtain⟨r2,ax,f1,f2,f3⟩:=dB.1 o;have he:kp.aB=kq.aB:=he;rw[he,ax] at hr;cases hr;have af:kp.kids=kq.kids:=IF hS e3 f3 (λq hq=>P.closed k f kp l q hq) (λq hq=>P.closed k f kq o q hq) h h';have az:kp=kq:=by{cases kp;cases kq;simp only at he af;subst he af;rfl};rw[<-az] at i;exact Fb (D6 g w E k) j i}}}
theorem BD(o:nV g w E root S):∀v,(bQ (S.map (mkNode g w E S))).leaf v≠none->(bQ (S.map (mkNode g w E S))).cg v=[]:=λv f=>by cases hk:S[v]? with|none=>{unfold bQ at f;simp[hk] at f}|some k=>{obtain⟨i,j⟩:=mU (g:=g) (w:=w) (E:=E) hk;rw[i] at f;rw[j];split at f;{rename_i l;rw[CL l];rfl};{exact absurd rfl f}}
theorem vF:∀(L:List Key),(L.map λk=>(mkNode g w E S k).cg.length).sum=ek g w E L
 | []=>rfl
 | k::L=>by{have:=vF L;unfold ek at this |-;simp only[y2,Sv,this];simp[mkNode]}
end
def jc(g:aj)(w:List Nat)(most:Nat)(L:List Tree)(c:Int):Prop:=
 dz (λd=>eU g w d ⟨false,g.start⟩ 0 w.length) c/\
  (((∀E,gQ g w E->fW w E ⟨false,g.start⟩ 0 w.length=false)/\L=[])\/(most=0/\L=[])\/
   ∃E S,gQ g w E/\fW w E ⟨false,g.start⟩ 0 w.length=true/\nV g w E (rootKey g w) S/\BB (bQ (S.map (mkNode g w E S))) (place S (rootKey g w)) most L)
def Qt(most:Nat)(L:List Tree)(c:Int):Prop:=L.length=most\/(c≠-1/\c<=L.length)
def Lt(most:Nat)(L:List Tree)(c:Int):Prop:=L.length<most/\(c=-1\/(L.length:Int)<c)
theorem xQ{T:Nat->Nat}(hm:∀d,T d<=T (d+1))(g:¬m6 T):∃n,iK T n:=by have aux:∀k d,(∀e,T e<T d+k)->∃n,iK T n:=by{intro k;induction k with|zero=>{intro d h;exact absurd (h d) zo}|succ k i=>{intro d h;by_cases f:∃e,d<=e/\T d<T e;{obtain⟨e,h3,h4⟩:=f;exact i e λj=>by have:=h j;omega};{(refine⟨T d,d,λe he=>?_⟩;have h3:=Ie hm he;rcases AT (T d) (T e) with h4 | h4);{exact(f ⟨e,he,h4⟩).elim};{omega}}}};by_cases h:∃B,∀d,T d<B;{obtain⟨B,h⟩:=h;exact aux B 0 λe=>by have:=h e;omega};{refine(g λB=>?_).elim;by_cases f:∃d,B<=T d;{exact f};{exact(h ⟨B,λd=>by{rcases AT (T d) B with h3 | h3;{exact h3};{exact(f ⟨d,h3⟩).elim}}⟩).elim}}
section
variable {g:aj}{w:List Nat}{most:Nat}{L:List Tree}{c:Int}
theorem jc.valid(h:jc g w most L c):∀T∈L,aN g w ⟨false,g.start⟩ T 0 w.length:=λT hT=>by rcases h.2 with ⟨_,rfl⟩ | ⟨_,rfl⟩ | ⟨E,S,l,f,i,j⟩;{cases hT};{cases hT};{exact NT.tree i f _ T (rootKey g w) (Sp _) i.first (j.valid T hT)}
theorem jc.sorted(h:jc g w most L c):L.Pairwise qJ:=by rcases h.2 with ⟨_,rfl⟩ | ⟨_,rfl⟩ | ⟨E,S,j,f,l,i⟩;{exact .nil};{exact .nil};{exact i.sorted}
theorem jc.len(h:jc g w most L c):L.length<=most:=by rcases h.2 with ⟨_,rfl⟩ | ⟨_,rfl⟩ | ⟨E,S,j,f,l,i⟩;{exact BY _};{exact BY _};{exact i.len}
theorem jc.small(h:jc g w most L c):∀T∈L,T.pre.length<=5000:=λT hT=>by rcases h.2 with ⟨_,rfl⟩ | ⟨_,rfl⟩ | ⟨E,S,j,f,l,i⟩;{cases hT};{cases hT};{exact i.small T hT}
end
theorem wv(F:aw)(m:Nat):Abs.Spec CC 125 [.agg ⟨[.slice none 0 0,.int .i64 (-1)]⟩,.int .i64 (m:Nat)] F [] λg v o=>o=[]/\v=.tuple ⟨[.slice none 0 0,.bool true]⟩:=by refine Abs.Spec.fn (n:=161) Tryz.func125 rfl rfl λown=>?_;refine AW.seq (AW.fj ?_);refine WT.bZ Z Z Z Z Z Z (λi2 f=>?_);refine aq ?_;refine AW.cond Z (λ_=>?_) (λh=>(by cases h));refine aq ?_;exact AW.ret ⟨_,[],⟨_,_,rfl,⟨_,_,rfl,rfl,rfl⟩,rfl⟩,bw,rfl,rfl⟩
theorem wq(F:aw)(f:Option Addr)(g i root:Nat):Abs.Spec CC 125 [.agg ⟨[.slice f g i,.int .i64 root]⟩,.int .i64 ((0:Nat):Int)] F [] λl v o=>o=[]/\v=.tuple ⟨[.slice none 0 0,.bool true]⟩:=by refine Abs.Spec.fn (n:=161) Tryz.func125 rfl rfl λown=>?_;refine AW.seq (AW.fj ?_);refine WT.bZ Z Z Z Z Z Z (λi2 j=>?_);refine aq ?_;refine AW.cond Z (λ_=>?_) (λh=>(by cases h));refine aq ?_;exact AW.ret ⟨_,[],⟨_,_,rfl,⟨_,_,rfl,rfl,rfl⟩,rfl⟩,bw,rfl,rfl⟩
theorem Spec.Lo{f:FuncId}{args:List Value}{F:aw}{P:aw->Value->Prop}(h:Abs.Spec CC f args F [] λg v o=>o=[]/\P g v):Abs.Spec CC f args F [] λg v o=>o=[[]]/\P g v:=by intro own j hs;obtain⟨v,l,g,i,p,r,t,rfl,C⟩:=h own j hs;exact⟨v,l,g,[[]],p,r,by simpa [St] using t,rfl,C⟩
theorem xb(F:aw)(g:aj)(r:Valid g){w:List Nat}(l:w.length<=12){E:List (List Nat)}(t:gQ g w E){U:Option Addr}{fn fc:Nat}{fr:Int}(hV:pS g w E F (.agg ⟨[.slice U fn fc,.int .i64 fr]⟩)){most:Nat}(hm:most<=100) :
  Abs.Spec CC 125 [.agg ⟨[.slice U fn fc,.int .i64 fr]⟩,.int .i64 (most:Nat)] F [] λF' v o=>∃R,o=[R]/\∃L c,jc g w most L c/\
   ((Qt most L c/\∃a n d B k6 bs,v=.tuple ⟨[.slice a n d,.bool true]⟩/\R=B++bs/\cu Dg E0 a n d B k6/\fN k6 bs L)\/(Lt most L c/\v=.tuple ⟨[.slice none 0 0,.bool false]⟩)):=by rcases hV with ⟨f,p⟩ | ⟨f,S,a,n,c,p,j,hA⟩;{(cases p;refine(Spec.Lo (wv F most)).mono λF' v o _ ⟨C,p⟩=>⟨[],C,[],0,⟨?_,.inl ⟨λE' ac=>by rw[Gc ac t];exact f,rfl⟩⟩,.inl ⟨.inr ⟨by decide,by simp⟩,none,0,0,[],[],[],p,rfl,cu.dF _ _,.nil⟩⟩;refine .inl ⟨0,zE λd=>?_,rfl⟩;rcases Sd (eU g w d ⟨false,g.start⟩ 0 w.length) with e | e);{exact e};{have:=(mC t (BY _)).2 (tH e);rw[f] at this;cases this}};{cases p;have i:=ud r w;have I:=j.first;have J:=iM I;have ad:=(gS J).1;have e:(λd=>bC (S.map (mkNode g w E S)) d (place S (rootKey g w)))=λd=>eU g w d ⟨false,g.start⟩ 0 w.length:=by{funext d;exact tQ r t j i f d _ I};have ae:=DT r l j i;have hpr:=xA r t j i f;rcases Sd most with h0 | h0;{subst h0;obtain⟨cc,af⟩:∃c,dz (λd=>eU g w d ⟨false,g.start⟩ 0 w.length) c:=by{by_cases hb:m6 (λd=>eU g w d ⟨false,g.start⟩ 0 w.length);{exact⟨-1,.inr ⟨hb,rfl⟩⟩};{obtain⟨n,hn⟩:=xQ (λd=>lX g w d ⟨false,g.start⟩ 0 w.length) hb;exact⟨_,.inl ⟨n,hn,rfl⟩⟩}};exact(Spec.Lo (wq F U fn fc _)).mono λF' v o _ ⟨C,p⟩=>⟨[],C,[],cc,⟨af,.inr (.inl ⟨rfl,rfl⟩)⟩,.inl ⟨.inl rfl,none,0,0,[],[],[],p,rfl,cu.dF _ _,.nil⟩⟩};{refine(ER F (Nk r j f) ae hpr hA (place S (rootKey g w)) (by rw[sh];exact ad) (by rw[(mU J).1];rfl) (BD j) ?_ h0 hm).mono λF' v o _ ⟨R,C,L,c,⟨hF,hc⟩,P⟩=>⟨R,C,L,c,⟨by rw[<-e];exact hc,.inr (.inr ⟨E,S,t,f,j,hF⟩)⟩,?_⟩;{have:=vF (g:=g) (w:=w) (E:=E) (S:=S) S;unfold DZ;rw[SS,Tj];show (S.map λk=>(mkNode g w E S k).cg.length).sum<=_;rw[this];exact LN (AQ r l j.nodup j.reach) (by decide)};{rcases P with ⟨h1,h2⟩ | ⟨h1,h2,h3⟩;{exact .inl ⟨h1,h2⟩};{exact .inr ⟨⟨h1,h2⟩,h3⟩}}}}
def L4(g:aj)(w:List Nat)(most:Nat)(v:Value)(o:List (List (Nat×aC))):Prop:=
 ∃f,o=[f]/\∃L c,jc g w most L c/\
   ((Qt most L c/\∃a n d B i bs,v=.tuple ⟨[.slice a n d,.int .i64 0]⟩/\f=B++bs/\cu Dg E0 a n d B i/\fN i bs L)\/(Lt most L c/\v=.tuple ⟨[.slice none 0 0,.int .i64 2]⟩))
theorem DH(F:aw)(hL:Laid F)(g:aj)(p:Valid g){ga:Option Addr}{gm gc:Nat}(P:a7 cO F ga gm gc g.rules){b:Option Addr}{n d:Nat}{w:List Nat}(hw:a7 eO F b n d w)(f:w.length<=12)(r:∀t∈w,t<g.ae){most:Nat}(hm:most<=100) :
  Abs.Spec CC 75 [.agg ⟨ak g ga gm gc⟩,.slice b n d,.int .i64 (most:Nat)] F [] λF' v o=>L4 g w most v o:=by unfold ak;refine Abs.Spec.fn (n:=34) Tryz.func75 rfl rfl λown=>?_;refine AW.seq (AW.fj ?_);refine WT.bZ Z Z Z Z Z Z (λi3 ad=>?_);refine aq ?_;refine WT.aX Tryz.func88 Z Z Z Z Z Z (oB _ g p P hw f r) (λv j=>?_);subst j;refine aq ?_;refine AW.cond Z (λh=>(by cases h)) (λh=>?_);refine aq ?_;refine AW.cond Z (λh=>(by exfalso;simp at h;omega)) (λh=>?_);refine aq ?_;refine WT.bO Tryz.func90 Z Z Z Z Z Z (vr _ hL g p P hw f) (λF2 v af j=>?_);obtain⟨E,hE,j⟩:=j;have i:∃R fn U fr,v=.agg ⟨[.slice R fn U,.int .i64 fr]⟩:=by{rcases j with ⟨_,rfl⟩ | ⟨_,S,a,n',c,rfl,_⟩;{exact⟨_,_,_,_,rfl⟩};{exact⟨_,_,_,_,rfl⟩}};(obtain⟨R,fn,U,fr,rfl⟩:=i;refine aq ?_;refine WT.mA Tryz.func125 Z Z Z Z Z Z (xb _ g p f hE j hm) (λF3 v B3 an C=>?_);obtain⟨L,c,hW,l⟩:=C;rcases l with ⟨I,a,n',d',B,k6,bs,rfl,rfl,hB,J⟩ | ⟨hf,rfl⟩);{refine aq ?_;refine AW.cond Z (λh=>(by cases h)) (λh=>?_);refine aq ?_;refine AW.ret ⟨_,[_],⟨_,_,rfl,⟨_,_,rfl,rfl,rfl⟩,rfl⟩,List.Sublist.cons_cons _ bw,_,rfl,L,c,hW,.inl ⟨I,_,_,_,_,_,_,rfl,rfl,hB,J⟩⟩};{refine aq ?_;refine AW.cond Z (λ_=>?_) (λh=>(by cases h));refine aq ?_;refine AW.ret ⟨_,[_],⟨_,_,rfl,⟨_,_,rfl,rfl,rfl⟩,rfl⟩,List.Sublist.cons_cons _ bw,_,rfl,L,c,hW,.inr ⟨hf,rfl⟩⟩}
section
variable {C:Ctx}{T:RT}{n:Nat}{k:bY}{F:aw}{own:bH}{ops rest:List Oper}{o:Oper}{Q:bY->aw->bH->List Rec->Prop}
theorem WT.mS(hT:aP C T=true){t ty:TypeId}{i j:Operand}{a:Option Addr}{m c e:Nat}{r:Row}(f:o.op=.binOp .neq t i j ty)(hw:aH ops k o=some true){dst:Nat}(g:o.dst=some dst)(I:Nat.blt dst n=true)
  (l:aW C k i=some (.slice a m c)) (p:aW C k j=some (.slice none 0 0)) (J:rowOf T t=some r) (P:r.d=.slice e)
  (h:WT C n ops rest ((dst,.bool (!a.isNone))::k) F own (λk2 R own2 rs=>Q k2 R own2 (⟨F,own,F,own,[]⟩::rs))):WT C n ops (o::rest) k F own Q:=by refine WT.still hw (by rw[f];simp only[bg,l,p];rfl) (λU _=>?_) (by rw[g,aA I];exact h);rw[f];have hu:=bz hT J P;cases a<;>simp only[aQ,l,p,jL,iT,xf,equalA,hu]<;>rfl
end
theorem xw(F:aw){a:Option Addr}{m c:Nat}{xs:List Nat}(f:a7 eO F a m c xs)(hm:m<=1000000) :
  Abs.Spec CC 87 [.slice a m c] F [] λJ v o=>∃i,o=[i]/\∃j g,v=.slice j m g/\er eO J j m g i xs/\(xs=[]->g=0):=by refine Abs.Spec.fn (n:=8) Tryz.func87 rfl rfl λown=>?_;refine aq ?_;refine WT.oM hT Z Z Z Z Z Z Z Z (aq ?_);refine AW.cond Z (λh=>?_) (λh=>?_);{obtain rfl:a=none:=by{simpa using h};obtain⟨rfl,rfl⟩:=f.nil rfl;obtain rfl:xs=[]:=D1 f.len.symm;refine aq ?_;refine AW.le (own2:=[]::own) (ah.flat (ri _)) (AW.ret ⟨_,[[]],⟨_,_,rfl,rfl,rfl⟩,bw,_,rfl,_,_,rfl,(cu.dF _ _).vec,λ_=>rfl⟩)};{refine aq ?_;refine WT.aS hT Z Z Z Z Z Z Z Z Z Z Z Z Z Z (λi5 P=>?_);refine aq ?_;obtain⟨ds,l,r⟩:=mO hT f (t:=22) rfl rfl 3;refine WT.D3 hT Z Z Z Z Z Z Z Z Z Z Z Z (λR U=>l _ R U) r f.len (by decide) gT (λj g i C I=>?_);refine aq ?_;refine AW.le (ah.cons _ (ah.skip _ oR)) (AW.ret ⟨_,[_],⟨_,_,rfl,rfl,rfl⟩,bw,_,rfl,_,_,rfl,C,I⟩)}
def BU(g:aj)(u:List Nat):Prop:=jZ g u g.start 0 u.length=true/\∃c,dz (λd=>eU g u d ⟨false,g.start⟩ 0 u.length) c/\(c=-1\/1<c)
structure LY(F:aw)(i2 i8:Nat)(g:aj)(a:Option Addr)(m c:Nat):Prop where
 hg:F i2=some (.cells false [.int .i64 g.ae,.int .i64 g.az,.int .i64 g.start,.slice a m c])
 self:F i8=some (.cells false [.func (.func 86) ⟨[]⟩ ⟨[.pointer (some ⟨i2,0,none⟩),.pointer (some ⟨i8,0,none⟩)]⟩])
theorem LY.mono{F G:aw}{i2 i8:Nat}{g:aj}{a:Option Addr}{m c:Nat}(h:LY F i2 i8 g a m c)(f:aw.le F G):LY G i2 i8 g a m c:=⟨f _ _ h.hg,f _ _ h.self⟩
def Oz(F:aw)(g:aj)(w:List Nat)(k:Nat)(v:Value):Prop:=
 (v=.slice none 0 0/\∀t,t.length=k->(∀x∈t,x<g.ae)->¬BU g (w++t))\/
 ∃i j l t,v=.slice (some i) j l/\a7 eO F (some i) j l (w++t)/\t.length=k/\(∀x∈t,x<g.ae)/\BU g (w++t)/\
  ∀f,f.length=k->(∀x∈f,x<g.ae)->BU g (w++f)->qW g.ae t<=qW g.ae f
theorem KK{g:aj}(U:Valid g){i2 i8:Nat}{a:Option Addr}{m c:Nat}:∀(left:Nat) (F:aw) (hL:Laid F) (hC:LY F i2 i8 g a m c) (hr:a7 cO F a m c g.rules)
  {wa:Addr} {wn wc:Nat} {w:List Nat} (hw:a7 eO F (some wa) wn wc w) (f:∀t∈w,t<g.ae) (hlen:w.length+left<=12),
  Abs.Spec CC 86 [.slice (some wa) wn wc,.int .i64 left,.pointer (some ⟨i2,0,none⟩),.pointer (some ⟨i8,0,none⟩)] F [] λF' v o=>o=[]/\Oz F' g w left v:=by intro left;have b6:=U.range.ae;induction left with|zero=>{intro F hL hC hr wa wn wc w hw f hlen;obtain⟨h2,h8⟩:=id hC;refine Abs.Spec.fn (n:=54) Tryz.func86 rfl rfl λown=>?_;refine aq ?_;refine AW.cond Z (λ_=>?_) (λh=>(by simp at h));have ao:=Dc F hL g U hr hw zo f;unfold ak at ao;refine aq ?_;refine WT.aX Tryz.func62 Z Z Z Z Z Z ao (λv hv=>?_);subst hv;generalize ab:jZ g w g.start 0 w.length=dv;refine aq ?_;refine AW.cond Z (λh=>?_) (λh=>?_);{have bf:dv=false:=by{simpa using h};refine aq ?_;refine AW.ret ⟨_,[],⟨_,_,rfl,rfl,rfl⟩,bw,rfl,.inl ⟨rfl,λt ht _ hs=>?_⟩⟩;obtain rfl:t=[]:=D1 ht;have:=hs.1;rw[R3,ab,bf] at this;cases this};{have ap:dv=true:=by{simpa using h};have ar:=u7 F hL g U hr hw zo f;unfold ak at ar;refine aq ?_;refine WT.bO Tryz.func38 Z Z Z Z Z Z ar (λF2 v av hv=>?_);obtain⟨cv,rfl,l⟩:=hv;by_cases ac:cv=-1;{subst ac;refine aq ?_;refine AW.cond Z (λ_=>?_) (λh=>(by cases h));refine aq ?_;refine AW.ret ⟨_,[],⟨_,_,rfl,rfl,rfl⟩,bw,rfl,.inr ⟨_,_,_,[],rfl,by rw[R3];exact hw.mono av,rfl,λx hx=>(by cases hx),?_,λP r _ _=>?_⟩⟩;{rw[R3];exact⟨by rw[ab,ap],_,l,.inl rfl⟩};{exact BY _}};{refine aq ?_;refine WT.dk (v':=.bool false) 31 Z (by congr 1;simp[ac]) (aq ?_);refine AW.cond Z (λh=>?_) (λh=>?_);{have h:1<cv:=by{simpa using h};refine aq ?_;refine AW.ret ⟨_,[],⟨_,_,rfl,rfl,rfl⟩,bw,rfl,.inr ⟨_,_,_,[],rfl,by rw[R3];exact hw.mono av,rfl,λx hx=>(by cases hx),?_,λP r _ _=>?_⟩⟩;{rw[R3];exact⟨by rw[ab,ap],_,l,.inr h⟩};{exact BY _}};{have h:¬1<cv:=by{simpa using h};(refine aq ?_;refine AW.ret ⟨_,[],⟨_,_,rfl,rfl,rfl⟩,bw,rfl,.inl ⟨rfl,λt ht _ hs=>?_⟩⟩;obtain rfl:t=[]:=D1 ht;obtain⟨_,c',ax,bl⟩:=hs;rw[R3] at ax;obtain rfl:=dz.uniq (lX g w · _ _ _) ax l;rcases bl with h3 | h3);{exact ac h3};{exact h h3}}}}}|succ k ih=>{intro F hL hC hr wa wn wc w hw f hlen;have cf:=hw.len;obtain⟨h2,h8⟩:=id hC;refine Abs.Spec.fn (n:=54) Tryz.func86 rfl rfl λown=>?_;refine aq ?_;refine AW.cond Z (λh=>(by exfalso;simp at h;omega)) (λ_=>?_);refine aq ?_;refine AW.range (S:=Unit) (λ_=>[]) (λ_=>own) (λj _ G=>∀t,t.length=k->(∀x∈t,x<g.ae)->∀i,i<j->¬BU g (w++i::t)) g.ae () Z Z Z Z Z Z Z Z Z zo rfl rfl (λ_=>rfl) (λ_=>rfl) sM oR (λt _ _ i hi=>by omega) ?_ ?_;{intro j _ F1 C hj hP;have az:=hC.mono C;obtain⟨ch,bn⟩:=id az;have bo:=hw.mono C;have br:=hL.mono C;have bs:=hr.mono C;refine aq ?_;refine AW.draw (ps:=[(0,2),(0,4),(0,5),(7,2),(7,4),(7,5)]) Z Z (aq ?_);refine WT.mA Tryz.func87 Z Z Z Z Z Z (xw _ bo zo) (λF3 v B3 a0 hv=>?_);obtain⟨ca,cc,rfl,l,bt⟩:=hv;have ck:=a0 _ _ bn;refine aq ?_;refine WT.aS hT Z Z Z Z Z Z Z Z Z Z Z Z Z Z (λi45 b2=>?_);refine WT.Hr (ys:=[j]) hT 1 l bt Z (λ_=>rfl) Z Z Z Z Z Z Z Z Z Z Z (λh0 s0=>aT hT s0 0 Z Z Z Z) (aF.single (R:=eO) (x:=j) rfl) Z (by decide) gT (λa4 c4 B4 bv=>?_);refine WT.ay 1 Z Z (λF4 a1 a2=>?_);have a3:=bv.frozen a1 a2;have I:=a0.trans a1;obtain⟨xa,rfl⟩:∃p,a4=some p:=by{cases ha:a4 with|none=>{subst ha;have:=(a3.nil rfl).1;omega}|some p=>{exact⟨p,rfl⟩}};refine aq ?_;refine WT.dk (v':=.int .i64 (k:Nat)) 48 Z (by congr 1;omega) (WT.Cg Tryz.func86 Z Z Z Z Z Z Z Z (ih F4 (br.mono I) (az.mono I) (bs.mono I) a3 (λt ht=>?_) ?_) (λF5 v cs hv=>?_));{rcases AI.1 ht with ht | ht;{exact f t ht};{rw[n0.1 ht];exact hj}};{rw[q0];show w.length+1+k<=12;omega};rcases hv with ⟨rfl,bx⟩ | ⟨ya,yn,yc,t,rfl,hy,ad,a5,a8,a9⟩;{(refine aq ?_;refine⟨k9,?_⟩;refine aq ?_;refine WT.mS hT Z Z Z Z Z Z Z Z (aq ?_);refine AW.cond Z (λh=>(by cases h)) (λ_=>?_);refine aq ?_;refine⟨(),sM,c7,λt ht hx i hi=>?_⟩;rcases AT i j with h3 | h3);{exact hP t ht hx i h3};{obtain rfl:i=j:=by{omega};have:=bx t ht hx;rwa [AS] at this}};{refine aq ?_;refine⟨k9,?_⟩;refine aq ?_;refine WT.mS hT Z Z Z Z Z Z Z Z (aq ?_);refine AW.cond Z (λ_=>?_) (λh=>(by cases h));refine aq ?_;rw[AS] at hy a8;refine AW.ret ⟨_,[],⟨_,_,rfl,rfl,rfl⟩,bw,rfl,.inr ⟨_,_,_,j::t,rfl,hy,by rw[If,ad],λx hx=>?_,a8,λP r af ba=>?_⟩⟩;{rcases IN.1 hx with rfl | hx;{exact hj};{exact a5 x hx}};{match P,r with| i::P,r=>{have J:P.length=k:=by{simpa using r};have bb:∀x∈P,x<g.ae:=λx hx=>af x (ma _ hx);have ct:j<=i:=by{rcases AT i j with h3 | h3;{exact(hP P J bb i h3 ba).elim};{exact h3}};show j*g.ae ^ t.length+qW g.ae t<=i*g.ae ^ P.length+qW g.ae P;rw[ad,J];rcases AT j i with h3 | h3;{have h4:=wF a5;rw[ad] at h4;have h5:(j+1)*g.ae ^ k<=i*g.ae ^ k:=Sf _ h3;rw[Sq] at h5;omega};{obtain rfl:i=j:=by{omega};have:=a9 P J bb (by rw[AS];exact ba);omega}}}}};{intro _ F1 C hP;refine aq ?_;refine AW.ret ⟨_,[],⟨_,_,rfl,rfl,rfl⟩,bw,rfl,.inl ⟨rfl,λt ht hx hs=>?_⟩⟩;match t,ht with| i::t,ht=>{exact hP t (by simpa using ht) (λx af=>hx x (ma _ af)) i (hx i me) hs}}}
def N6(F:aw)(g:aj)(n:Nat)(v:Value):Prop:=∃i j l a2 n2 c2,∃e:Nat,v=.tuple ⟨[.slice i j l,.slice a2 n2 c2,.int .i64 e]⟩/\
 ((e=5/\∀u,u.length<=n->(∀x∈u,x<g.ae)->¬BU g u)\/
  ∃u L c,u.length<=n/\(∀x∈u,x<g.ae)/\BU g u/\(∀f,(∀x∈f,x<g.ae)->BU g f->u.length<f.length\/(u.length=f.length/\qW g.ae u<=qW g.ae f))/\jc g u 2 L c/\
   ((e=2/\Lt 2 L c)\/(e=0/\Qt 2 L c/\a7 eO F i j l u/\a7 gN F a2 n2 c2 L)))
theorem yj(F:aw)(hL:Laid F)(g:aj)(hg:Valid g){a:Option Addr}{m c:Nat}(hr:a7 cO F a m c g.rules){n:Nat}(hn:n<=5) :
  Abs.Spec CC 35 [.agg ⟨ak g a m c⟩,.int .i64 n] F [] λF' v o=>o=[]/\N6 F' g n v:=by unfold ak;refine Abs.Spec.fn (n:=48) Tryz.func35 rfl rfl λown=>?_;refine AW.seq (AW.fj ?_);refine WT.bZ Z Z Z Z Z Z (λi2 b6=>?_);refine ai ?_;have aa:=je F g hg.range hr;unfold ak at aa;refine WT.aX Tryz.func85 Z Z Z Z Z Z aa (λv hv=>?_);rw[hg.ui] at hv;subst hv;refine ai ?_;refine AW.cond Z (λh=>(by cases h)) (λ_=>?_);refine ai ?_;refine AW.cond Z (λh=>(by exfalso;simp at h;omega)) (λ_=>?_);refine ai ?_;refine WT.aG hT Z Z Z Z Z Z (λi8 b7=>?_);refine ai ?_;refine AW.ay 0 Z Z (λF1 a2 a3=>?_);refine AW.ay 1 Z Z (λF2 ab a4=>?_);have f8:=ab _ _ (a3 i8 _ me);have f2:=a4 i2 _ me;have I:=a2.trans ab;have a5:LY F2 i2 i8 g a m c:=⟨f2,f8⟩;have a8:=hr.mono I;have a9:=hL.mono I;refine AW.dk (v':=.int .i64 ((n+1:Nat):Int)) 26 Z (by congr 1) (AW.range (S:=Unit) (λ_=>[]) (λ_=>[]::[]::own) (λj _ G=>∀u,u.length<j->(∀x∈u,x<g.ae)->¬BU g u) (n+1) () Z Z Z Z Z Z Z Z Z zo rfl rfl (λ_=>rfl) (λ_=>rfl) sM (ah.flat (ri _)) (λu h=>by omega) ?_ ?_);{intro j _ F3 r hj hP;have ac:=a5.mono r;obtain⟨ca,cc⟩:=id ac;have ba:=a8.mono r;have bb:=a9.mono r;refine ai ?_;refine WT.aS hT Z Z Z Z Z Z Z Z Z Z Z Z Z Z (λi31 bv=>?_);refine WT.ay 0 Z Z (λF4 J cf=>?_);have ad:=ac.mono J;have af:=ba.mono J;have ag:=bb.mono J;have bc:a7 eO F4 (some ⟨i31,0,none⟩) 0 0 []:=⟨rfl,.inl rfl,λ_=>rfl,λh=>(by cases h),λp hp=>(by cases hp;rfl),λj x h=>(by cases h)⟩;refine ai ?_;(refine WT.Cg Tryz.func86 Z Z Z Z Z Z Z Z (KK hg j F4 ag ad af bc (λt ht=>(by cases ht)) (by show 0+j<=12;omega)) (λF5 v P hv=>?_);have bd:=ad.mono P;obtain⟨ck,cn⟩:=id bd;have be:=af.mono P;have bf:=ag.mono P;rcases hv with ⟨rfl,bi⟩ | ⟨ya,yn,yc,t,rfl,hy,ct,R,C,al⟩);{(refine ai ?_;refine WT.mS hT Z Z Z Z Z Z Z Z (ai ?_);refine AW.cond Z (λh=>(by cases h)) (λ_=>?_);refine ai ?_;refine⟨(),sM,c7,λu hu U=>?_⟩;rcases AT u.length j with h3 | h3);{exact hP u h3 U};{exact bi u zo U}};{have hy:a7 eO F5 (some ya) yn yc t:=hy;have C:BU g t:=C;refine ai ?_;refine WT.mS hT Z Z Z Z Z Z Z Z (ai ?_);refine AW.cond Z (λ_=>?_) (λh=>(by cases h));have an:=DH F5 bf g hg be hy zo R (most:=2) zo;unfold ak at an;refine ai ?_;refine WT.mA Tryz.func75 Z Z Z Z Z Z an (λF6 v B6 bl bn=>?_);obtain⟨L,c6,hW,ao⟩:=bn;have f:∀l,(∀x∈l,x<g.ae)->BU g l->t.length<l.length\/(t.length=l.length/\qW g.ae t<=qW g.ae l):=λl U hs=>by{rcases AT t.length l.length with h3 | h3;{exact .inl h3};{rcases AT l.length j with h4 | h4;{exact(hP l h4 U hs).elim};{exact .inr ⟨by omega,al l zo U hs⟩}}};rcases ao with ⟨bo,a1,n1,d1,B1,b3,c0,rfl,rfl,ap,br⟩ | ⟨hf,rfl⟩;{refine WT.ay 0 Z Z (λF7 bs ar=>?_);have hA:a7 gN F7 a1 n1 d1 L:=br.frozen ap (λi b hm=>ar i b (IT _ hm)) (λi b hm=>ar i b (R8 _ hm));refine ai ?_;refine AW.cond Z (λh=>(by cases h)) (λ_=>?_);refine ai ?_;refine AW.ret ⟨_,[],⟨_,_,rfl,⟨_,_,rfl,⟨_,_,rfl,rfl,rfl⟩,rfl⟩,rfl⟩,bw,rfl,_,_,_,_,_,_,0,rfl,.inr ⟨t,L,c6,by omega,R,C,f,hW,.inr ⟨rfl,bo,(hy.mono bl).mono bs,hA⟩⟩⟩};{refine ai ?_;refine AW.cond Z (λ_=>?_) (λh=>(by cases h));refine ai ?_;refine AW.ret ⟨_,[],⟨_,_,rfl,⟨_,_,rfl,⟨_,_,rfl,rfl,rfl⟩,rfl⟩,rfl⟩,bw,rfl,_,_,_,_,_,_,2,rfl,.inr ⟨t,L,c6,by omega,R,C,f,hW,.inl ⟨rfl,hf⟩⟩⟩}}};{intro _ F3 r hP;refine ai ?_;exact AW.ret ⟨_,[],⟨_,_,rfl,⟨_,_,rfl,⟨_,_,rfl,rfl,rfl⟩,rfl⟩,rfl⟩,bw,rfl,_,_,_,_,_,_,5,rfl,.inl ⟨rfl,λu hu U=>hP u zo U⟩⟩}
section
variable {C:Ctx}{T:RT}{n:Nat}{k:bY}{F:aw}{own:bH}{ops rest:List Oper}{o:Oper}{Q:bY->aw->bH->List Rec->Prop}
end
structure RM where
 b:Nat
 xs:List Nat
 B:List (Nat×aC)
structure RQ where
 b:Nat
 xs:List Nat
 B:List (Nat×aC)
structure Kn(F:aw)(i9 i10 iw ik N:Nat):Prop where
 hw:F i9=some (.cells false [.slice (some ⟨iw,0,none⟩) N 1])
 hk:F i10=some (.cells false [.slice (some ⟨ik,0,none⟩) N 1])
theorem Kn.mono{F G:aw}{i9 i10 f g N:Nat}(h:Kn F i9 i10 f g N)(i:aw.le F G):Kn G i9 i10 f g N:=⟨i _ _ h.hw,i _ _ h.hk⟩
section
variable {C:Ctx}{cal:rJ}
end
structure QT(N:Nat)(W:List (List Nat))(K:List Bool):Prop where
 O2:W.length=N
 Oe:K.length=N
 short:∀u∈W,u.length<=2000
structure QF(g:aj)(T:JQ)(N:Nat):Prop where
 pos:0<N
 RF:N<=1000000
 Qh:T.act.length=N
 RE:T.go.length=N
 QK:∀row∈T.act,row.length=g.ae+1
 Rq:∀row∈T.act,∀a∈row,a.1=1->a.2<N
 grow:∀row∈T.go,row.length<=g.az
 Rj:∀row∈T.go,∀z∈row,z<(N:Int)
structure RN where
 cs:List Value
 W:List (List Nat)
 K:List Bool
structure RH where
 cs:List Value
 W:List (List Nat)
 K:List Bool
 D:List Bool
structure RL where
 a:Option Addr
 m:Nat
 c:Nat
 B:List (Nat×aC)
section
variable {g:aj}{w:List Nat}{E:List (List Nat)}{root:Key}{S:List Key}
mutual
theorem aN.Qg:∀{t:Tree} {s:Sym} {i j:Nat},aN g w s t i j->nT g w s i j
 | _,_,_,_,.leaf h=>.term h
 | _,_,_,_,.node h f=>.Js (gM h) (aE.Pm f)
theorem aE.Pm:∀{ts:List Tree} {l:List Sym} {i j:Nat},aE g w l ts i j->mM g w l i j
 | [],_,_,_,.nil=>.nil
 | _::_,_,_,_,.cons h f=>.cons (aN.Qg h) (aE.Pm f)
end
mutual
theorem aN.fin:∀{t:Tree} {s:Sym} {i j:Nat},aN g w s t i j->i<=w.length->j<=w.length
 | _,_,_,_,.leaf h,_=>(gS h).1
 | _,_,_,_,.node _ f,hi=>aE.Pw f hi
theorem aE.Pw:∀{ts:List Tree} {l:List Sym} {i j:Nat},aE g w l ts i j->i<=w.length->j<=w.length
 | [],_,_,_,.nil,hi=>hi
 | _::_,_,_,_,.cons h f,hi=>aE.Pw f (aN.fin h hi)
end
theorem K4(I:Valid g)(w:List Nat):∃E,gQ g w E:=by refine⟨(List.range g.az).map λn=>(List.range (w.length+1)).map λi=>bB (λj=>nT g w ⟨false,n⟩ i j) (w.length+1),⟨by simp,λr f=>?_,λr f x J=>?_⟩,λn i j hi=>?_⟩;{obtain⟨n,_,rfl⟩:=tx.1 f;simp};{obtain⟨n,_,rfl⟩:=tx.1 f;obtain⟨i,_,rfl⟩:=tx.1 J;exact iF _ _};{constructor;{rintro⟨row,x,t,C,P⟩;rw[zm] at t;obtain⟨R,o,rfl⟩:=SA.1 t;obtain rfl:R=n:=by{obtain⟨U,l⟩:=gS o;rw[UH] at l;exact l.symm};rw[zm] at C;obtain⟨i',o,rfl⟩:=SA.1 C;obtain rfl:i'=i:=by{obtain⟨U,l⟩:=gS o;rw[UH] at l;exact l.symm};exact((ef _ _ _).1 P).2};{intro h;have hn:n<g.az:=by{generalize hs:(⟨false,n⟩:Sym)=s at h;cases h with| term _=>cases hs| Js f _=>{cases hs;exact(I.right _ f).1}};have hj:=(nT.tree h).elim λT hT=>hT.fin hi;refine⟨_,_,gR (SQ hn),gR (SQ zo),(ef _ _ _).2 ⟨by omega,h⟩⟩}}
mutual
theorem aN.nt(P:gQ g w E)(C:nV g w E root S):∀{T:Tree} {s:Sym} {i j:Nat},aN g w s T i j->j<=w.length->(⟨s,i,j⟩:Key)∈S->NT (bQ (S.map (mkNode g w E S))) (place S ⟨s,i,j⟩) T
 | _,_,_,_,.leaf h,I,hk=>by{have f:=iM hk;obtain⟨o,J⟩:=mU (g:=g) (w:=w) (E:=E) f;refine .leaf ?_ ?_;{show _<(S.map _).length;rw[sh];exact(gS f).1};{rw[o,nw rfl]}}
 | _,_,_,_,.node (k:=k) (r:=r) R t,I,hk=>by{have f:=iM hk;obtain⟨o,J⟩:=mU (g:=g) (w:=w) (E:=E) f;obtain⟨ks,U,h2⟩:=aE.Rf P C t I;have l:(⟨k,ks⟩:fY)∈bK g w E ⟨⟨false,r.left⟩,_,_⟩:=dB.2 ⟨r,R,rfl,rfl,U⟩;refine NT.node (p:=eV S ⟨k,ks⟩) ?_ (by rw[o];rfl) ?_ (h2 λq hq=>C.closed _ hk _ l q hq);{show _<(S.map _).length;rw[sh];exact(gS f).1};{rw[J];exact SZ l}}
theorem aE.Rf(f:gQ g w E)(o:nV g w E root S):∀{ts:List Tree} {l:List Sym} {i j:Nat},aE g w l ts i j->j<=w.length->∃ks,ks∈splits w E j l i/\((∀q∈ks,q∈S)->rI (bQ (S.map (mkNode g w E S))) (ks.map (place S)) ts)
 | _,_,i,_,.nil,_=>⟨[],by unfold splits;rw[nw rfl];exact n0.2 rfl,λ_=>.nil⟩
 | _,_,i,j,.cons (s:=s) (m:=m) h r,C=>by{have hm:=r.le;have hi:=h.le;obtain⟨ks,I,J⟩:=aE.Rf f o r C;refine⟨⟨s,i,m⟩::ks,?_,λt=>.cons (aN.nt f o h zo (t _ me)) (J λq hm=>t q (ma _ hm))⟩;unfold splits;refine S9.2 ⟨m,Sr.2 zo,?_⟩;rw[nw ((mC f zo).2 h.Qg)];exact SZ I}
end
theorem jc.rest(j:Valid g){most:Nat}{L:List Tree}{c:Int}(h:jc g w most L c)(hm:0<most){T:Tree}(hT:aN g w ⟨false,g.start⟩ T 0 w.length)(l:T∉L):L.length=most\/5000<T.pre.length:=by rcases h.2 with ⟨o,rfl⟩ | ⟨rfl,_⟩ | ⟨E,S,f,p,i,r⟩;{obtain⟨E,f⟩:=K4 j w;have:=o E f;rw[(mC f (BY _)).2 hT.Qg] at this;cases this};{omega};{exact(r.rest T (hT.nt f i (mc _) i.first) l).2}
end
theorem z5(F:aw){a b:Option Addr}{m n c d:Nat}{xs ys:List Tree}(hx:a7 gN F a m c xs)(hy:a7 gN F b n d ys)(hm:m<=1000000)(hn:n<=1000000)
  (C:∀G R U (x y:Tree),x∈xs->gN.rel G R x->gN.rel G U y->Abs.Spec CC 41 [.agg ⟨R⟩,.agg ⟨U⟩] G [] λ_ v o=>o=[]/\∃r,v=.bool r/\(r=true↔x=y)) :
  Abs.Spec CC 80 [.slice a m c,.slice b n d,.func (.func 41) ⟨[]⟩ ⟨[]⟩] F [] λ_ v o=>o=[]/\∃r,v=.bool r/\(r=true↔xs=ys):=by refine Abs.Spec.fn (n:=32) Tryz.func80 rfl rfl λown=>?_;have aa:=hx.len;have ab:=hy.len;refine aq ?_;refine AW.cond Z (λh=>?_) (λh=>?_);{have h:m≠n:=by{intro e;subst e;simp at h};refine aq ?_;exact AW.ret ⟨_,[],⟨_,_,rfl,rfl,rfl⟩,bw,rfl,false,rfl,λh=>(by cases h),λe=>(by subst e;omega)⟩};{have h:m=n:=by{simp at h;omega};subst h;refine aq ?_;refine AW.range (S:=Unit) (λ_=>[]) (λ_=>own) (λj _ G=>xs.take j=ys.take j) m () Z Z Z Z Z Z Z Z Z zo Z Z (λ_=>rfl) (λ_=>rfl) sM oR (by simp) ?_ ?_;{intro j _ F1 i hj P;have ac:=hx.mono i;have ad:=hy.mono i;refine aq ?_;refine WT.bk hT ac Z Z Z Z Z Z Z Z Z zo (λx I b1 off ro cs R hb av f=>?_);have l:=f;obtain⟨xr,xt,ae⟩:=x;obtain⟨xa,xn,xc,rfl,_⟩:=cF f;refine aq ?_;refine WT.aG hT Z Z Z Z Z Z (λi8 a0=>?_);refine aq ?_;refine WT.bk hT ad Z Z Z Z Z Z Z Z Z zo (λy af b2 ao a1 a2 U a3 a4 f=>?_);have t:=f;obtain⟨yr,yt,ag⟩:=y;obtain⟨ya,yn,yc,rfl,_⟩:=cF f;refine aq ?_;refine WT.aG hT Z Z Z Z Z Z (λi9 a9=>?_);refine aq ?_;refine WT.eY Tryz.func41 Z Z Z Z Z Z Z Z (C _ _ _ _ _ (gM I) l t) (λv hv=>?_);obtain⟨r,rfl,hr⟩:=hv;have g:xs.take (j+1)=xs.take j++[.mk xr xt ae]:=by{rw[yf,I];rfl};have J:ys.take (j+1)=ys.take j++[.mk yr yt ag]:=by{rw[yf,af];rfl};cases r with|true=>{refine aq ?_;refine AW.cond Z (λh=>(by cases h)) (λ_=>?_);refine aq ?_;refine⟨(),sM,ah.skip _ (ah.skip _ oR),?_⟩;show xs.take (j+1)=ys.take (j+1);rw[g,J,show xs.take j=ys.take j from P,hr.1 rfl]}|false=>{refine aq ?_;refine AW.cond Z (λ_=>?_) (λh=>(by cases h));refine aq ?_;refine AW.ret ⟨_,[],⟨_,_,rfl,rfl,rfl⟩,bw,rfl,false,rfl,λh=>(by cases h),λe=>?_⟩;rw[e] at g;rw[J] at g;have:=List.append_cancel_left g;have h2:=hr.2 (List.cons.inj this).1.symm;cases h2}};{intro _ F1 i P;rw[pf zo,pf zo] at P;refine aq ?_;exact AW.ret ⟨_,[],⟨_,_,rfl,rfl,rfl⟩,bw,rfl,true,rfl,λ_=>P,λ_=>rfl⟩}}
theorem kM:∀(N:Nat) (F:aw) (f g:List Value) (x y:Tree),x.pre.length<N->x.pre.length<=1000000->gN.rel F f x->gN.rel F g y->Abs.Spec CC 41 [.agg ⟨f⟩,.agg ⟨g⟩] F [] λ_ v o=>o=[]/\∃r,v=.bool r/\(r=true↔x=y)
 | 0,_,_,_,_,_,h,_,_,_=>by omega
 | N+1,F,f,g,.mk r t ks,.mk P R U,hN,C,hx,hy=>by{obtain⟨xa,xn,xc,rfl,i,ac⟩:=cF hx;obtain⟨ya,yn,yc,rfl,j,J⟩:=cF hy;have ad:=i.len;have ae:=j.len;have af:(Tree.mk r t ks).pre.length=(bT ks).length+1:=rfl;refine Abs.Spec.fn (n:=24) Tryz.func41 rfl rfl λown=>?_;refine AW.seq (AW.fj ?_);refine WT.bZ Z Z Z Z Z Z (λi2 ag=>?_);refine WT.bZ Z Z Z Z Z Z (λi3 al=>?_);refine aq ?_;by_cases l:r=P;{refine WT.dk (v':=.bool true) 10 Z (by congr 1;simp[l]) (aq ?_);by_cases I:t=R;{refine WT.dk (v':=.bool true) 17 Z (by congr 1;simp[I]) (aq ?_);refine WT.aX Tryz.func80 Z Z Z Z Z Z (z5 _ i j zo zo (λG f g x y hm g1 g2=>kM N G f g x y (by have:=kZ hm;omega) (by have:=kZ hm;omega) g1 g2)) (λv hv=>?_);obtain⟨b,rfl,C⟩:=hv;refine aq ?_;refine AW.ret ⟨_,[],⟨_,_,rfl,rfl,rfl⟩,bw,rfl,b,rfl,λh=>?_,λh=>?_⟩;{rw[l,I,C.1 h]};{cases h;exact C.2 rfl}};{refine WT.dk (v':=.bool false) 17 Z (by congr 1;simp;omega) (aq ?_);exact AW.ret ⟨_,[],⟨_,_,rfl,rfl,rfl⟩,bw,rfl,false,rfl,λh=>(by cases h),λh=>(by cases h;exact absurd rfl I)⟩}};{refine WT.dk (v':=.bool false) 10 Z (by congr 1;simp[l]) (aq ?_);exact AW.ret ⟨_,[],⟨_,_,rfl,rfl,rfl⟩,bw,rfl,false,rfl,λh=>(by cases h),λh=>(by cases h;exact absurd rfl l)⟩}}
theorem EI(F:aw){a b:Option Addr}{m n c d:Nat}{xs ys:List Nat}(f:a7 eO F a m c xs)(g:a7 eO F b n d ys)(r:m<=10000)(t:n<=10000) :
  Abs.Spec CC 42 [.slice a m c,.slice b n d] F [] λ_ v o=>o=[]/\v=.bool (decide (xs.length<ys.length\/(xs.length=ys.length/\cR xs ys<0))):=by (have i:=f.len;have j:=g.len;refine Abs.Spec.fn (n:=23) Tryz.func42 rfl rfl λown=>?_;refine aq ?_;rcases AT m n with h | h);{refine WT.dk (v':=.bool true) 10 Z (by congr 1;simp;omega) (aq ?_);refine AW.ret ⟨_,[],⟨_,_,rfl,rfl,rfl⟩,bw,rfl,?_⟩;rw[Us (.inl zo)];rfl};{refine WT.dk (v':=.bool false) 10 Z (by congr 1;simp;omega) (aq ?_);by_cases e:m=n;{refine WT.dk (v':=.bool true) 16 Z (by congr 1;simp;omega) (aq ?_);refine WT.aX Tryz.func94 Z Z Z Z Z Z (nM _ f g zo zo) (λv l=>?_);subst l;refine aq ?_;refine AW.ret ⟨_,[],⟨_,_,rfl,rfl,rfl⟩,bw,rfl,?_⟩;show Value.bool (decide (cR xs ys<0))=_;congr 1;rw[UQ];constructor;{intro h3;exact .inr ⟨by omega,h3⟩};{rintro(h3 | h3);{omega};{exact h3.2}}};{refine WT.dk (v':=.bool false) 16 Z (by congr 1;simp;omega) (aq ?_);refine AW.ret ⟨_,[],⟨_,_,rfl,rfl,rfl⟩,bw,rfl,?_⟩;rw[TY (λh3=>by rcases h3 with h3 | h3<;>omega)];rfl}}
end Go.Proofs.D