/-
  Walks: what functions of the program do, over the abstract machine.
-/
import Derived.Test.YtmbdmfjijofmmaaGreatDoorWk1
import Derived.Sort.Walk13a
set_option linter.unusedVariables false
set_option maxRecDepth 20000
set_option maxHeartbeats 0
open Go Go.Abs Go.Proofs Go.Proofs.D
namespace Go.Abs
section
variable {C:Ctx}{T:RT}{n:Nat}{k:bY}{F:aw}{own:bH}{ops rest:List Oper}{o:Oper}{Q:bY->aw->bH->List Rec->Prop}{args':List Value}
theorem WT.Cg{f:FuncId}{fn:Func}{fo:Operand}{j:Array Operand}{ts:Array TypeId}{args args' first capt:List Value}{P:aw->Value->Prop}(hf:C.func f=some fn)(hb:fn.body.isSome=true)(p:o.op=.call ⟨.value fo,j,ts⟩)
  (hw:aH ops k o=some true) {dst:Nat} (r:o.dst=some dst) (hn:Nat.blt dst n=true) (t:aW C k fo=some (.func (.func f) ⟨first⟩ ⟨capt⟩)) (hv:cZ (aW C k) j.toList=some args) (g:first++args++capt=args') (spec:Spec C f args' F [] λi v o=>o=[]/\P i v)
  (h:∀i v,aw.le F i->P i v->WT C n ops rest ((dst,v)::k) i own (λk2 F2 own2 rs=>Q k2 F2 own2 (⟨F,own,i,own,[]⟩::rs))) :
  WT C n ops (o::rest) k F own Q:=by subst g;refine WT.step (l:=[]) (by rw[p];rfl) λe J hk hs=>?_;obtain⟨v,h1,R,U,⟨m,hd⟩,hF,I,rfl,hp⟩:=spec own J hs;refine⟨v,h1,R,own,⟨m,λN hN=>?_⟩,hF,I,by rw[r,aA hn];exact h R v hF hp⟩;unfold dj;rw[eJ hk hw];have:aQ C (aW C k) J o.op=some (.call f (first++args++capt)):=by{rw[p];simp only[aQ,t,hv,re hf hb]};simp only[dY hk.eval this,hd N hN]
theorem O7{h:au}{s m c:Nat}{a:Option Addr}(f:∀p,a=some p->p.spot=none):eg h s 0 (.slice a m c)=some []:=by match a,f with|none,_=>rfl|some ⟨b,off,none⟩,_=>rfl|some ⟨b,off,some _⟩,f=>{have:=f _ rfl;cases this}
theorem WT.dP{α:Type}{R:Ty α}(hT:aP C T=true)(p:Nat){B:List (Nat×aC)}{db:List (Nat×aC)->bH}{a b2:Option Addr}{m c d c2 by_:Nat}{xs ys:List α}{t e t2 e2:Nat}{r r2:Row}{z:Value}{xo so:Operand}
  (hb:cu R F a m c B xs) (hy:a7 R F b2 d c2 ys) (hp:own[p]?=some B) (g:∀l,jG own p l=some (db l)) (I:o.op=.call ⟨.builtin .append,⟨[so,xo]⟩,⟨[t,t2]⟩⟩) (hw:aH ops k o=some true) {dst:Nat} (i:o.dst=some dst) (hn:Nat.blt dst n=true)
  (hs:aW C k so=some (.slice a m c)) (hx:aW C k xo=some (.slice b2 d c2)) (hr:rowOf T t=some r) (hd:r.d=.slice e) (J:dW T e=some R.size) (hz:gq T e=some z) (P:kz T e=some by_)
  (U:rowOf T t2=some r2) (aa:r2.d=.slice e2) (j:0<R.size/\0<by_) (f:(m+d)*by_<=140737488355328)
  (h:∀a' c' l,cu R F a' (m+d) c' l (xs++ys)->WT C n ops rest ((dst,.slice a' (m+d) c')::k) F (db l) (λk2 F2 own2 rs=>Q k2 F2 own2 (⟨F,own,F,db l,[]⟩::rs))) :
  WT C n ops (o::rest) k F own Q:=by by_cases ac:d=0;{subst ac;obtain rfl:ys=[]:=D1 hy.len.symm;have e:db B=own:=by{rw[<-cA _ _ _ _ (g B)];obtain⟨ad,rfl⟩:=gS hp;exact List.set_getElem_self ad};have:=h a c B (by simpa using hb);rw[e] at this;exact WT.Hv hT I hw i hn hs hx hr hd J hz P U aa (λh0 s0=>O7 hy.spot) j (by simpa using f) this};{obtain⟨ds,ae,af⟩:=mO hT hy U aa e;exact WT.bu hT p hb hp g I hw i hn hs hx hr hd J hz P (λh0 s0=>ae _ h0 s0) af hy.len ⟨by omega,j⟩ f h}
end
end Go.Abs
namespace Go.Proofs.D
def KE(k:Key):List Nat:=[k.fJ,k.to,if k.sym.term=true then 0 else 1,k.sym.n]
theorem HF{x y:Key}(h:jJ x y=true):cR (KE x) (KE y)<0:=by rw[pH] at h;obtain⟨⟨f,i⟩,j,l⟩:=x;obtain⟨⟨g,o⟩,p,r⟩:=y;rw[mG] at h;simp only at h;unfold KE;simp only[cR,aY];cases f<;>cases g<;>simp at h |-<;>repeat' split<;>omega
def fX:Ty Bool where
 size:=1
 rel:=λ_ l x=>l=[.bool x]
 len:=λ_ _ _ h=>by subst h;rfl
 one:=λ_ _ _ h=>by subst h;rfl
 mono:=λ_ _ _ _ _ h=>h
def NG(to:Nat):List Sym->Nat->List Key->Prop
 | [],i,ks=>ks=[]/\i=to
 | s::l,i,ks=>∃q f,ks=q::f/\q.sym=s/\q.fJ=i/\NG to l q.to f
structure OR(g:aj)(S:List Key)(k:Key)(p:gZ)(kp:fY):Prop where
 num:p=eV S kp
 aB:∃r,g.rules[kp.aB]?=some r/\r.left=k.sym.n/\NG k.to r.right k.fJ kp.kids
 ins:∀q∈kp.kids,q∈S
structure Qz(g:aj)(w:List Nat)(S:List Key)(k:Key)(x:Node):Prop where
 key:x.key=k
 term:k.sym.term=true->k.to=k.fJ+1/\k.to<=w.length/\w[k.fJ]?=some k.sym.n/\x.cg=[]
 Js:k.sym.term=false->x.cg≠[]
 pack:∀p∈x.cg,∃kp,OR g S k p kp
 sorted:x.cg.Pairwise λx y=>jA x y<0
theorem CL{g:aj}{w:List Nat}{E:List (List Nat)}{k:Key}(h:k.sym.term=true):bK g w E k=[]:=by rw[Uh];intro p i;obtain⟨r,_,_,f,_⟩:=dB.1 i;rw[h] at f;cases f
structure RX where
 O:List Int
 B:List (Nat×aC)
 again:Bool
structure RJ where
 xs:List Bool
 a:Option Addr
 m:Nat
 c:Nat
 B:List (Nat×aC)
structure DS where
 i:Nat
 j:Nat
 ys:List cb
 B:List (Nat×aC)
end Go.Proofs.D
set_option linter.unusedVariables false
set_option maxRecDepth 20000
set_option maxHeartbeats 0
open Go Go.Abs Go.Proofs Go.Proofs.D
namespace Go.Abs
section
variable {C:Ctx}{T:RT}{n:Nat}{k:bY}{F:aw}{own:bH}{ops rest:List Oper}{o:Oper}{Q:bY->aw->bH->List Rec->Prop}
end
end Go.Abs
namespace Go.Proofs.D
def GR(F:aw)(cs:List Value)(W:List (List Nat)):Prop:=cs.length=W.length/\∀(n:Nat) (u:List Nat),W[n]?=some u->∃a m c,cs[n]?=some (.slice a m c)/\a7 eO F a m c u
theorem GR.mono{F G:aw}{cs:List Value}{W:List (List Nat)}(h:GR F cs W)(f:aw.le F G):GR G cs W:=
 ⟨h.1,λn u hu=>let ⟨a,m,c,g,i⟩:=h.2 n u hu;⟨a,m,c,g,i.mono f⟩⟩
theorem Ab{α:Type}{l:List α}{i:Nat}{a d:α}(h:i<l.length):(l.set i a).getD i d=a:=by rw[qs,sj h];rfl
theorem getD_set_ne{α:Type}{l:List α}{i j:Nat}{a d:α}(h:j≠i):(l.set i a).getD j d=l.getD j d:=by rw[qs,tj (Ne.symm h),<-qs]
theorem OT.put{g:aj}{O:List Int}{W:List (List Nat)}{K:List Bool}(h:OT g O W K){i:Nat}{u:List Nat}(hu:Lw g ⟨false,i⟩ u)(l:(u.length:Int)=O.getD i (-1))(hm:O.getD i (-1)<=2000):OT g O (W.set i u) (K.set i true):=by refine⟨by rw[Su];exact h.O2,by rw[Su];exact h.Oe,λn f=>?_⟩;by_cases e:n=i;{subst e;have j:n<K.length:=by{rcases AT n K.length with h1 | h1;{exact h1};{rw[qs,D2 (by rw[Su];exact h1)] at f;simp at f}};rw[Ab (by rw[h.O2,<-h.Oe];exact j)];exact⟨hu,l,hm⟩};{rw[getD_set_ne e] at f;rw[getD_set_ne e];exact h.word n f}
structure RR where
 cs:List Value
 W:List (List Nat)
 K:List Bool
 again:Bool
structure RO where
 a:Option Addr
 m:Nat
 c:Nat
 B:List (Nat×aC)
 ws:List Nat
 ok:Bool
def QJ(O:List Int)(W:List (List Nat))(K:List Bool)(left:Nat)(l:List Sym):Prop:=(0<=O.getD left (-1)/\O.getD left (-1)<=2000)/\(∀s∈l,OO K s)/\((He W l).length:Int)<=O.getD left (-1)
theorem AL(W:List (List Nat)):∀(l:List Sym) (k:Nat),(He W (l.take k)).length<=(He W l).length
 | [],k=>by simp[He]
 | x::l,0=>by simp[He]
 | x::l,k+1=>by{have:=AL W l k;simp only[UA,He,q0];omega}
theorem QJ.take{O:List Int}{W:List (List Nat)}{K:List Bool}{left:Nat}{l:List Sym}(h:QJ O W K left l)(k:Nat):QJ O W K left (l.take k):=
 ⟨h.1,λs hs=>h.2.1 s (Ux hs),by have:=AL W l k;have:=h.2.2;omega⟩
def aI(xs ys:List Bool):List Bool:=List.zipWith (λa b=>a||b) xs ys
def p9(j:Nat)(xs ys:List Bool):List Bool:=aI (xs.take j) (ys.take j)++xs.drop j
theorem A8(xs ys:List Bool):p9 0 xs ys=xs:=by simp[p9,aI]
theorem ED{xs ys:List Bool}(h:xs.length=ys.length):p9 xs.length xs ys=aI xs ys:=by unfold p9;rw[pf (mc _),pf zo,Se (mc _),R3]
theorem w8{j:Nat}{xs ys:List Bool}(h:xs.length=ys.length):(p9 j xs ys).length=xs.length:=by unfold p9 aI;simp;omega
theorem tN{j:Nat}{xs ys:List Bool}{x:Bool}(h:xs.length=ys.length)(f:xs[j]?=some x):(p9 j xs ys)[j]?=some x:=by have g:=(gS f).1;unfold p9 aI;rw[R0 (by simp;omega)];simp;rw[<-f];congr 1;omega
theorem uR{j:Nat}{xs ys:List Bool}{x y:Bool}(h:xs.length=ys.length)(f:xs[j]?=some x)(l:ys[j]?=some y):p9 (j+1) xs ys=(p9 j xs ys).set j (x||y):=by have g:=(gS f).1;have i:(aI (xs.take j) (ys.take j)).length=j:=by{unfold aI;simp;omega};unfold p9;rw[yf,yf,f,l];unfold aI;rw[List.zipWith_append (by simp;omega)];have o:xs.drop j=x::xs.drop (j+1):=by{rw[OF g];rw[gE g] at f;rw[mm f]};rw[o];unfold aI at i;rw[UT _ _ zo,i,Tr];simp
structure US where
 cur:List Bool
 ch:Bool
theorem rf(F:aw){it:Nat}{xs ys:List Bool}{b:Option Addr}{m n c d:Nat}(hm:m=xs.length)(hy:a7 fX F b n d ys)(hlen:xs.length=ys.length)(hn:n<=1000000) :
  Abs.Spec CC 134 [.slice (some ⟨it,0,none⟩) m c,.slice b n d] F [[(it,.cells false (xs.map a6.cell))]] λ_ v o=>∃B',o=[B']/\B'=[(it,.cells false ((aI xs ys).map a6.cell))]/\v=.bool (decide (aI xs ys≠xs)):=by have J:=hy.len;refine Abs.Spec.fn (n:=28) Tryz.func134 rfl rfl λown=>?_;refine aq ?_;refine AW.range (S:=US) (λs=>[(5,.bool s.ch)]) (λs=>[(it,.cells false (s.cur.map a6.cell))]::own) (λj s G=>s.cur=p9 j xs ys/\s.ch=decide (s.cur≠xs)) n ⟨xs,false⟩ Z Z Z Z Z Z Z Z Z zo Z Z (λ_=>rfl) (λ_=>rfl) sM oR ⟨(A8 xs ys).symm,by simp⟩ ?_ ?_;{intro j s F1 t hj P;obtain⟨f,r⟩:=P;have R:=hy.mono t;obtain⟨x,I⟩:∃x,xs[j]?=some x:=⟨_,gE zo⟩;have ae:s.cur.length=xs.length:=by{rw[f];exact w8 hlen};have U:(s.cur.map a6.cell)[0+j*1]?=some (.bool x):=by{rw[yo,R9,zm,f,tN hlen I];rfl};refine aq ?_;refine WT.bk hT R Z Z Z Z Z Z Z Z Z zo (λy aa b1 off ro cs lx hb hp C=>?_);obtain rfl:lx=_:=C;have g:=uR hlen I aa;rw[<-f] at g;have same:(x||y)=x->s.cur.set j (x||y)=s.cur:=by{intro e;rw[e];apply Sb;intro i;by_cases hi:i=j;{subst hi;rw[sj zo,f,tN hlen I]};{rw[tj zo]}};refine aq ?_;refine WT.split 16 Z (λh=>?_) (λh=>?_);{refine aq ?_;refine WT.cz (j:=j) (s:=1) hT Z Z Z Z Z Z Z Z Z zo (WT.loadAt hT 0 Z Z Z Z Z Z me Z Z U (aq ?_));refine AW.cond Z (λl=>?_) (λl=>?_);{have l:x=false:=by{simpa using l};refine aq ?_;refine WT.cz (j:=j) (s:=1) hT Z Z Z Z Z Z Z Z Z zo (WT.storeAt hT 0 0 Z Z Z Z Z Z Z Z Z Z (by simp;omega) Z Z (aq ?_));refine⟨⟨s.cur.set j true,true⟩,sM,ah.flat ?_,?_,?_⟩;{dsimp only;rw[SW,yo,R9];exact ri _};{rw[g,h,l];rfl};{have:s.cur.set j true≠xs:=by{intro e;have this:(s.cur.set j true)[j]?=xs[j]?:=by{rw[e]};rw[sj zo,I,l] at this;cases this};simp[this]}};{have l:x=true:=by{simpa using l};refine aq ?_;refine⟨s,sM,c7,?_,r⟩;rw[g,same (by rw[l];rfl)]}};{refine aq ?_;refine AW.cond Z (λl=>(by cases l)) (λl=>?_);refine aq ?_;refine⟨s,sM,c7,?_,r⟩;rw[g,same (by rw[h];simp)]}};{intro s F1 t P;obtain⟨f,r⟩:=P;rw[show n=xs.length by omega,ED hlen] at f;refine aq ?_;refine AW.ret ⟨_,[_],⟨_,_,rfl,rfl,rfl⟩,Sa _,_,rfl,by rw[<-f],?_⟩;rw[<-f,<-r];rfl}
def ofRow(E:List Bool)(Fi:List (List Bool)):List Bool->List Sym->List Bool×Bool
 | out,[]=>(out,true)
 | out,s::l=>if s.term=true then (out.set s.n true,false) else
  if E.getD s.n false=true then ofRow E Fi (aI out (Fi.getD s.n [])) l else (aI out (Fi.getD s.n []),false)
theorem y4(F:aw){is ie io:Nat}{ro:Bool}{ae az start rm rc ce co:Nat}{ra:Option Addr}{E:List Bool}{Fi:List (List Bool)}
  (hS:F is=some (.cells ro [.int .i64 ae,.int .i64 az,.int .i64 start,.slice ra rm rc,.slice (some ⟨ie,0,none⟩) az ce,.slice (some ⟨io,0,none⟩) az co]))
  (hE:a7 fX F (some ⟨ie,0,none⟩) az ce E) (ad:a7 (bR fX) F (some ⟨io,0,none⟩) az co Fi) (an:∀r∈Fi,r.length=ae) (ht:ae<=1000000)
  {a:Option Addr} {m c:Nat} {l:List Sym} (hl:a7 gW F a m c l) (hm:m<=1000000) (ao:∀y∈l,dr ae az y) :
  Abs.Spec CC 133 [.pointer (some ⟨is,0,none⟩),.slice a m c] F [] λ_ v o=>∃B',o=[B']/\∃C,B'=[(C,.cells false ((ofRow E Fi (List.replicate ae false) l).1.map a6.cell))]/\
   (ofRow E Fi (List.replicate ae false) l).1.length=ae/\v=.tuple ⟨[.slice (some ⟨C,0,none⟩) ae (if ae=0 then 0 else 1),.bool (ofRow E Fi (List.replicate ae false) l).2]⟩:=by have ap:=hl.len;have ar:=hE.len;have av:=ad.len;refine Abs.Spec.fn (n:=50) Tryz.func133 rfl rfl λown=>?_;refine aq ?_;refine WT.nL (l:=ae) hT Z Z Z Z Z Z Z Z Z Z Z Z gT (λC bn=>?_);rw[kJ];refine aq ?_;refine AW.range (S:=List Bool) (λ_=>[]) (λs=>[(C,.cells false (s.map a6.cell))]::own) (λj s G=>s.length=ae/\ofRow E Fi (List.replicate ae false) l=ofRow E Fi s (l.drop j)) m (List.replicate ae false) Z Z Z Z Z Z Z Z Z zo Z Z (λ_=>rfl) (λ_=>rfl) sM (ah.flat (by simp[a6])) ⟨by simp,by simp⟩ ?_ ?_;{intro j s F1 g hj hP;obtain⟨J,f⟩:=hP;have a0:=hl.mono g;have bo:=g _ _ hS;have a1:=hE.mono g;have af:=ad.mono g;refine aq ?_;refine WT.bk hT a0 Z Z Z Z Z Z Z Z Z zo (λy P b1 off br cs lx hb hp ag=>?_);obtain rfl:lx=_:=ag;have i:=ao y (gM P);have R:l.drop j=y::l.drop (j+1):=by{rw[OF (show j<l.length by omega)];rw[gE zo] at P;rw[mm P]};rw[R] at f;refine aq ?_;refine WT.aG hT Z Z Z Z Z Z (λi8 bt=>?_);refine aq ?_;refine AW.cond Z (λh=>?_) (λh=>?_);{have h:y.term=true:=h;rw[dr,nw h] at i;rw[ofRow,nw h] at f;refine aq ?_;refine WT.cz (j:=y.n) (s:=1) hT Z Z Z Z Z Z Z Z Z i (WT.storeAt hT 1 0 Z Z Z Z Z Z Z Z Z Z (by simp;omega) Z Z (aq ?_));refine AW.ret ⟨_,[[(C,.cells false ((s.set y.n true).map a6.cell))]],⟨_,_,rfl,⟨_,_,rfl,rfl,rfl⟩,rfl⟩,?_,_,rfl,C,?_,?_,?_⟩;{rw[SW,show 0+y.n*1=y.n by omega];exact Tm ..};{rw[f]};{rw[f];simp[J]};{rw[f];rfl}};{have h:¬y.term=true:=by{rw[show y.term=false from h];decide};rw[dr,mb h] at i;rw[ofRow,mb h] at f;refine aq ?_;refine WT.bk hT af Z Z Z Z Z Z Z Z Z zo (λrow I b2 bc bv bx b0 b4 b5 U=>?_);obtain⟨a4,n4,c4,rfl,t⟩:=U;have b6:=an row (gM I);have bd:=t.len;have aa:Fi.getD y.n []=row:=by{rw[qs,I];rfl};rw[aa] at f;have al:(aI s row).length=ae:=by{unfold aI;simp;omega};refine aq ?_;refine WT.qk 1 Tryz.func134 Z Z Z Z Z Z Z (λ_=>rfl) (rf F1 (it:=C) (xs:=s) (m:=ae) zo t zo zo) (λv B hv=>?_);obtain⟨rfl,rfl⟩:=hv;refine aq ?_;refine WT.bk hT a1 Z Z Z Z Z Z Z Z Z zo (λe he b3 be b8 b9 a2 ca cc ab=>?_);obtain rfl:a2=_:=ab;have a3:E.getD y.n false=e:=by{rw[qs,he];rfl};rw[a3] at f;refine aq ?_;refine AW.cond Z (λh2=>?_) (λh2=>?_);{have h2:e=false:=by{simpa using h2};rw[mb (by rw[h2];decide)] at f;refine aq ?_;refine AW.ret ⟨_,[[(C,.cells false ((aI s row).map a6.cell))]],⟨_,_,rfl,⟨_,_,rfl,rfl,rfl⟩,rfl⟩,Tm ..,_,rfl,C,?_,?_,?_⟩;{rw[f]};{rw[f];exact al};{rw[f];rfl}};{have h2:e=true:=by{simpa using h2};rw[nw h2] at f;refine aq ?_;exact⟨aI s row,sM,c7,al,f⟩}}};{intro s F1 g hP;obtain⟨J,f⟩:=hP;rw[Se zo,ofRow] at f;refine aq ?_;refine AW.ret ⟨_,[_],⟨_,_,rfl,⟨_,_,rfl,rfl,rfl⟩,rfl⟩,Sa _,_,rfl,C,?_,?_,?_⟩;{rw[f]};{rw[f];exact J};{rw[f];rfl}}
def fm(g:aj)(E:List Bool)(Fi:List (List Bool)):Prop:=∀r∈g.rules,aI (Fi.getD r.left []) (ofRow E Fi (List.replicate g.ae false) r.right).1=Fi.getD r.left []/\
 ((ofRow E Fi (List.replicate g.ae false) r.right).2=true->E.getD r.left false=true)
structure yA(F:aw)(is:Nat)(g:aj)(ra:Option Addr)(rm rc:Nat)(E:List Bool)(Fi:List (List Bool)):Prop where
 cf:∃ie io ce co ro,F is=some (.cells ro [.int .i64 g.ae,.int .i64 g.az,.int .i64 g.start,.slice ra rm rc,.slice (some ⟨ie,0,none⟩) g.az ce,.slice (some ⟨io,0,none⟩) g.az co])/\
  a7 fX F (some ⟨ie,0,none⟩) g.az ce E/\a7 (bR fX) F (some ⟨io,0,none⟩) g.az co Fi
 row:∀r∈Fi,r.length=g.ae
 rules:a7 cO F ra rm rc g.rules
 closed:fm g E Fi
structure FS where
 a:Option Addr
 m:Nat
 c:Nat
 B:List (Nat×aC)
 vs:List Value
 bs:List (Nat×aC)
structure FM where
 E:List Bool
 Fi:List (List Bool)
 bs:List (Nat×aC)
 again:Bool
def fZ:List Bool->Nat
 | []=>0
 | b::l=>(if b=true then 1 else 0)+fZ l
def dM(M:List (List Bool)):Nat:=(M.map fZ).sum
theorem sy:∀l:List Bool,fZ l<=l.length
 | []=>mc _
 | b::l=>by have:=sy l;simp only[fZ,If];split<;>omega
theorem Cz:∀{xs ys:List Bool},xs.length=ys.length->fZ xs<=fZ (aI xs ys)/\(aI xs ys≠xs->fZ xs<fZ (aI xs ys))
 | [],[],_=>by simp[aI]
 | [],_::_,h=>by simp at h
 | _::_,[],h=>by simp at h
 | x::xs,y::ys,h=>by{obtain⟨i,g⟩:=@Cz xs ys (by simpa using h);unfold aI at i g;simp only[aI,TC,fZ];cases x with|true=>{refine⟨by simp;omega,λf=>?_⟩;have:List.zipWith (λa b=>a||b) xs ys≠xs:=by{intro e;apply f;simp[e]};have:=g this;simp;omega}|false=>{cases y with|true=>{exact⟨by simp;omega,λ_=>by simp;omega⟩}|false=>{refine⟨by simp;omega,λf=>?_⟩;have:List.zipWith (λa b=>a||b) xs ys≠xs:=by{intro e;apply f;simp[e]};have:=g this;simp;omega}}}
theorem oF:∀{l:List Bool} {j:Nat},l[j]?=some false->fZ (l.set j true)=fZ l+1
 | [],j,h=>by simp at h
 | b::l,0,h=>by simp at h;subst h;simp[fZ];omega
 | b::l,j+1,h=>by{have:=@oF l j (by simpa using h);simp only[S7,fZ];omega}
theorem DA{n m:Nat}{M:List (List Bool)}(h:lq n m M):dM M<=n*m:=by unfold dM;rw[<-h.size,<-sh (f:=fZ)];refine Ch λx g=>?_;obtain⟨row,i,rfl⟩:=tx.1 g;have:=sy row;rw[h.row row i] at this;exact this
theorem AJ{M:List (List Bool)}{i:Nat}{row row':List Bool}(h:M[i]?=some row):dM (M.set i row')+fZ row=dM M+fZ row':=by unfold dM;rw[SW];exact tG (by rw[zm,h];rfl)
theorem gK{xs ys:List Bool}(h:xs.length=ys.length):(aI xs ys).length=xs.length:=by unfold aI;simp;omega
def qS(ae:Nat)(E:List Bool)(Fi:List (List Bool))(r:cb):Prop:=aI (Fi.getD r.left []) (ofRow E Fi (List.replicate ae false) r.right).1=Fi.getD r.left []/\
 ((ofRow E Fi (List.replicate ae false) r.right).2=true->E.getD r.left false=true)
def Kr(E:List Bool)(M:List (List Bool))(r:cb):Prop:=∀pre n post,r.right=pre++⟨false,n⟩::post->(∀y∈pre,y.term=false/\E.getD y.n false=true)->Fj M r.left n=some true
structure TM where
 M:List (List Bool)
 bs:List (Nat×aC)
structure RY where
 ys:List (List Nat)
 a:Option Addr
 m:Nat
 c:Nat
 B:List (Nat×aC)
inductive Tree where
 | mk (aB:Int) (term:Nat) (kids:List Tree)
theorem a7.imp{α:Type}{R S:Ty α}(hs:R.size=S.size){F:aw}{a:Option Addr}{n c:Nat}{xs:List α}(h:a7 R F a n c xs)(hi:∀l x,x∈xs->R.rel F l x->S.rel F l x):a7 S F a n c xs:=
 ⟨h.len,by rw[<-hs];exact h.cap,h.zero,h.nil,h.spot,λj x f=>
  let ⟨b,off,ro,cs,l,g,i,o,p⟩:=h.el j x f
  ⟨b,off,ro,cs,l,g,i,by rw[<-hs];exact o,hi _ _ (gM f) p⟩⟩
def jg:Nat->Ty Tree
 | 0=>⟨3,λ_ _ _=>False,λ_ _ _ h=>h.elim,λ_ _ _ h=>h.elim,λ_ _ _ _ _ h=>h⟩
 | d+1=>
  {size:=3
   rel:=λF l x=>∃r t ks a n c,x=.mk r t ks/\l=[.int .i64 r,.int .i64 (t:Nat),.slice a n c]/\a7 (jg d) F a n c ks/\ks.length<=1000000
   len:=λ_ _ _ h=>by obtain⟨r,t,ks,a,n,c,_,rfl,_⟩:=h;rfl
   one:=λ_ _ _ h=>by obtain⟨r,t,ks,a,n,c,_,rfl,_⟩:=h;rfl
   mono:=λ_ _ _ _ f h=>by obtain⟨r,t,ks,a,n,c,e,g,h,i⟩:=h;exact⟨r,t,ks,a,n,c,e,g,h.mono f,i⟩ }
theorem fq:∀d,(jg d).size=3
 | 0=>rfl
 | _+1=>rfl
theorem vZ:∀(d:Nat) (F:aw) (l:List Value) (x:Tree),(jg d).rel F l x->(jg (d+1)).rel F l x
 | 0,_,_,_,h=>h.elim
 | d+1,F,l,x,h=>by{obtain⟨r,t,ks,a,n,c,e,f,h,g⟩:=h;exact⟨r,t,ks,a,n,c,e,f,a7.imp (by rw[fq,fq]) h λl x _=>vZ d F l x,g⟩}
theorem JW{d e:Nat}(h:d<=e){F:aw}{l:List Value}{x:Tree}(f:(jg d).rel F l x):(jg e).rel F l x:=by induction h with| refl=>exact f| step _ g=>{exact vZ _ _ _ _ g}
def gN:Ty Tree where
 size:=3
 rel:=λF l x=>∃d,(jg d).rel F l x
 len:=λ_ _ _ h=>by obtain⟨d,h⟩:=h;rw[(jg d).len _ _ _ h,fq]
 one:=λ_ _ _ h=>by obtain⟨d,h⟩:=h;exact(jg d).one _ _ _ h
 mono:=λ_ _ _ _ f h=>by obtain⟨d,h⟩:=h;exact⟨d,(jg d).mono _ _ _ _ f h⟩
theorem LI{α:Type}{P:Nat->α->Nat->Prop}(hm:∀j x d e,d<=e->P j x d->P j x e):∀(xs:List α) (i:Nat),(∀j x,xs[j]?=some x->∃d,P (i+j) x d)->∃D,∀j x,xs[j]?=some x->P (i+j) x D
 | [],_,_=>⟨0,λ_ _ h=>by simp at h⟩
 | x::xs,i,h=>by{obtain⟨d,g⟩:=h 0 x rfl;obtain⟨D,l⟩:=LI hm xs (i+1) (λj y f=>by{have:=h (j+1) y f;rw[show i+(j+1)=i+1+j by omega] at this;exact this});refine⟨max d D,λj y f=>?_⟩;cases j with|zero=>{obtain rfl:x=y:=by{simpa using f};exact hm _ _ _ _ (Nat.le_max_left _ _) g}|succ j=>{have:=hm _ _ _ _ (Nat.le_max_right d D) (l j y f);rw[show i+(j+1)=i+1+j by omega];exact this}}
theorem LM{F:aw}{a:Option Addr}{n c:Nat}{xs:List Tree}(h:a7 gN F a n c xs):∃d,a7 (jg d) F a n c xs:=by obtain⟨D,t⟩:=LI (P:=λj x d=>∃b off ro cs l,a=some ⟨b,off,none⟩/\F b=some (.cells ro cs)/\bE cs (off+j*3) 3=some l/\(jg d).rel F l x) (λj x d e p ⟨b,off,ro,cs,l,g,i,f,o⟩=>⟨b,off,ro,cs,l,g,i,f,JW p o⟩) xs 0 (λj x r=>by{obtain⟨b,off,ro,cs,l,g,i,f,d,o⟩:=h.el j x r;exact⟨d,b,off,ro,cs,l,g,i,by rw[yo];exact f,o⟩});refine⟨D,h.len,by rw[fq];exact h.cap,h.zero,h.nil,h.spot,λj x r=>?_⟩;obtain⟨b,off,ro,cs,l,g,i,f,o⟩:=t j x r;rw[yo] at f;exact⟨b,off,ro,cs,l,g,i,by rw[fq];exact f,o⟩
theorem L1{F:aw}{r:Int}{t:Nat}{ks:List Tree}{a:Option Addr}{n c:Nat}(h:a7 gN F a n c ks)(f:ks.length<=1000000):gN.rel F [.int .i64 r,.int .i64 t,.slice a n c] (.mk r t ks):=by obtain⟨d,g⟩:=LM h;exact⟨d+1,r,t,ks,a,n,c,rfl,rfl,g,f⟩
theorem cF{F:aw}{l:List Value}{r:Int}{t:Nat}{ks:List Tree}(h:gN.rel F l (.mk r t ks)):∃a n c,l=[.int .i64 r,.int .i64 t,.slice a n c]/\a7 gN F a n c ks/\ks.length<=1000000:=by obtain⟨d,h⟩:=h;cases d with|zero=>exact h.elim|succ d=>{obtain⟨j,o,f,a,n,c,e,rfl,h,g⟩:=h;cases e;exact⟨a,n,c,rfl,a7.imp (fq d) h (λl x _ i=>⟨d,i⟩),g⟩}
structure RG where
 j:Nat
 a:Option Addr
 c:Nat
 B:List (Nat×aC)
structure BJ(g:aj)(M:List (List Bool))(E:List Bool)(Fi:List (List Bool)):Prop where
 DO:lq g.az g.az M
 first:fm g E Fi
 direct:∀r∈g.rules,Kr E M r
 trans:∀x y z,y<g.az->Fj M x y=some true->Fj M y z=some true->Fj M x z=some true
 Qm:∀i,i<g.az->Fj M i i≠some true
mutual
inductive aN(g:aj)(w:List Nat):Sym->Tree->Nat->Nat->Prop
 | leaf {t i:Nat} (h:w[i]?=some t):aN g w ⟨true,t⟩ (.mk (-1) t []) i (i+1)
 | node {k:Nat} {r:cb} {kids:List Tree} {i j:Nat} (h:g.rules[k]?=some r) (h2:aE g w r.right kids i j):aN g w ⟨false,r.left⟩ (.mk k 0 kids) i j
inductive aE(g:aj)(w:List Nat):List Sym->List Tree->Nat->Nat->Prop
 | nil {i:Nat}:aE g w [] [] i i
 | cons {s:Sym} {l:List Sym} {t:Tree} {ts:List Tree} {i m j:Nat} (h:aN g w s t i m) (h2:aE g w l ts m j):aE g w (s::l) (t::ts) i j
end
mutual
theorem aN.le{g:aj}{w:List Nat}:∀{t:Tree} {s:Sym} {i j:Nat},aN g w s t i j->i<=j/\(i<=w.length->j<=w.length)
 | .mk _ _ _,_,_,_,.leaf h=>⟨by omega,λ_=>by have:=(gS h).1;omega⟩
 | .mk _ _ ks,_,_,_,.node h f=>aE.le f
theorem aE.le{g:aj}{w:List Nat}:∀{ts:List Tree} {l:List Sym} {i j:Nat},aE g w l ts i j->i<=j/\(i<=w.length->j<=w.length)
 | [],_,_,_,.nil=>⟨mc _,id⟩
 | t::ts,_,_,_,.cons h f=>by{have o:=aN.le h;have p:=aE.le f;exact⟨by omega,λr=>p.2 (o.2 r)⟩}
end
theorem aE.len{g:aj}{w:List Nat}:∀{ts:List Tree} {l:List Sym} {i j:Nat},aE g w l ts i j->ts.length=l.length
 | [],_,_,_,.nil=>rfl
 | t::ts,_,_,_,.cons h f=>by simp[aE.len f]
theorem AH{E:List Bool}{Fi:List (List Bool)}:∀(l:List Sym) (out:List Bool),(∀y∈l,y.term=false/\E.getD y.n false=true)->(ofRow E Fi out l).2=true
 | [],_,_=>rfl
 | s::l,out,h=>by{have f:=h s me;unfold ofRow;rw[mb (by simp[f.1]),nw f.2];exact AH l _ λy g=>h y (ma _ g)}
mutual
theorem aN.empty{g:aj}{w:List Nat}{E:List Bool}{Fi:List (List Bool)}(f:fm g E Fi):∀{t:Tree} {s:Sym} {i j:Nat},aN g w s t i j->i=j->s.term=false/\E.getD s.n false=true
 | .mk _ _ _,_,_,_,.leaf h,e=>by omega
 | .mk _ _ ks,_,_,_,.node h l,e=>⟨rfl,(f _ (gM h)).2 (AH _ _ (aE.empty f l e))⟩
theorem aE.empty{g:aj}{w:List Nat}{E:List Bool}{Fi:List (List Bool)}(f:fm g E Fi):∀{ts:List Tree} {l:List Sym} {i j:Nat},aE g w l ts i j->i=j->∀y∈l,y.term=false/\E.getD y.n false=true
 | [],_,_,_,.nil,_=>λy hy=>by simp at hy
 | t::ts,_,_,_,.cons h o,e=>λy hy=>by{have r:=h.le.1;have C:=o.le.1;rcases IN.1 hy with rfl | hy;{exact aN.empty f h zo};{exact aE.empty f o zo y hy}}
end
theorem DU{p q:Nat->Bool}(h:∀x,p x=true->q x=true){y:Nat}(f:q y=true)(g:p y=false):∀l:List Nat,y∈l->l.countP p<l.countP q
 | [],hy=>by simp at hy
 | x::l,hy=>by{(have hle:l.countP p<=l.countP q:=List.countP_mono_left λz _=>h z;simp only[List.countP_cons];rcases IN.1 hy with rfl | hy);{rw[g,f];simp;omega};{have j:=DU h f g l hy;cases i:p x with|true=>{rw[h x i];simp;omega}|false=>{simp;cases q x<;>simp<;>omega}}}
def Ek(n:Nat)(M:List (List Bool))(i:Nat):Nat:=(List.range n).countP λj=>decide (Fj M i j=some true)
theorem ND(n:Nat)(M:List (List Bool))(i:Nat):Ek n M i<=n:=by have:=List.countP_le_length (p:=λj=>decide (Fj M i j=some true)) (l:=List.range n);rw[Tb] at this;exact this
theorem BJ.HF{g:aj}{M:List (List Bool)}{E:List Bool}{Fi:List (List Bool)}(h:BJ g M E Fi){x y:Nat}(i:y<g.az)(f:Fj M x y=some true):Ek g.az M y<Ek g.az M x:=
 DU (λz j=>by{have j:=SU j;exact Us (h.trans x y z i f j)}) (Us f) (TY (h.Qm y i)) _ (Sr.2 i)
def N4(g:aj)(M:List (List Bool))(len n i:Nat):Nat:=(len-i)*(g.az+1)+Ek g.az M n
theorem BJ.next{g:aj}{w:List Nat}{M:List (List Bool)}{E:List Bool}{Fi:List (List Bool)}(h:BJ g M E Fi){r:cb}(f:r∈g.rules){pre post:List Sym}{n:Nat}(he:r.right=pre++⟨false,n⟩::post)(j:n<g.az)
  {ts:List Tree} {i m:Nat} (hm:aE g w pre ts i m) (hi:i<=w.length):N4 g M w.length n m<N4 g M w.length r.left i:=by have l:=hm.le;have t:=l.2 hi;unfold N4;by_cases e:i=m;{subst e;have:=h.HF j (h.direct r f pre n post he (hm.empty h.first rfl));omega};{have C:=ND g.az M n;have o:(w.length-m+1)*(g.az+1)<=(w.length-i)*(g.az+1):=Sf _ zo;rw[Sq] at o;omega}
def Pe{S:Type}(f:S->bY)(k:bY)(i:S->bH)(P:S->aw->Prop)(A:Ex->bY->aw->bH->Prop):Ex->bY->aw->bH->Prop
 | .normal,k',g,be=>∃s,dm (f s++k) k'/\ah (i s) be/\P s g
 | x,k',g,be=>A x k' g be
theorem Pa(a b c d:Nat):((((a:Int)==(c:Int))&&(((b:Int)==(d:Int))&&true))=decide ((a,b)=(c,d))):=by rw[Td];simp only[ti,S6,SC,R7,Uw];omega
mutual
def Tree.pre:Tree->List Int
 | .mk r _ ks=>r::bT ks
def bT:List Tree->List Int
 | []=>[]
 | t::ts=>t.pre++bT ts
end
def lexLt:List Int->List Int->Prop
 | [],[]=>False
 | [],_::_=>True
 | _::_,[]=>False
 | a::l,b::m=>a<b\/(a=b/\lexLt l m)
theorem s8:∀(l:List Int),¬lexLt l l
 | [],h=>h
 | a::l,h=>by{rcases h with h | h;{omega};{exact s8 l h.2}}
theorem vN:∀{l m n:List Int},lexLt l m->lexLt m n->lexLt l n
 | [],[],_,h,_=>h.elim
 | [],_::_,[],_,h=>h.elim
 | [],_::_,_::_,_,_=>trivial
 | _::_,[],_,h,_=>h.elim
 | _::_,_::_,[],_,h=>h.elim
 | a::l,b::m,c::n,f,g=>by{rcases f with f | ⟨rfl,f⟩<;>rcases g with g | ⟨rfl,g⟩;{exact .inl zo};{exact .inl f};{exact .inl g};{exact .inr ⟨rfl,vN f g⟩}}
theorem vd:∀(l m:List Int),lexLt l m\/l=m\/lexLt m l
 | [],[]=>.inr (.inl rfl)
 | [],_::_=>.inl trivial
 | _::_,[]=>.inr (.inr trivial)
 | a::l,b::m=>by{rcases Int.lt_trichotomy a b with h | rfl | h;{exact .inl (.inl h)};{rcases vd l m with h | rfl | h;{exact .inl (.inr ⟨rfl,h⟩)};{exact .inr (.inl rfl)};{exact .inr (.inr (.inr ⟨rfl,h⟩))}};{exact .inr (.inr (.inl h))}}
theorem Az:∀{l m:List Int} (x y:List Int),l.length=m.length->lexLt l m->lexLt (l++x) (m++y)
 | [],[],_,_,_,h=>h.elim
 | [],_::_,_,_,h,_=>by simp at h
 | _::_,[],_,_,h,_=>by simp at h
 | a::l,b::m,x,y,h,f=>by{rcases f with f | ⟨rfl,f⟩;{exact .inl f};{exact .inr ⟨rfl,Az x y (by simpa using h) f⟩}}
theorem Ai:∀(a:List Int) {x y:List Int},lexLt x y->lexLt (a++x) (a++y)
 | [],_,_,h=>h
 | _::a,_,_,h=>.inr ⟨rfl,Ai a h⟩
def wj(l m:List Int):Prop:=l.length<m.length\/(l.length=m.length/\lexLt l m)
def tR(l m:List Int):Prop:=wj l m\/l=m
theorem wT(l:List Int):¬wj l l:=λh=>by rcases h with h | h;{omega};{exact s8 l h.2}
theorem mE{l m n:List Int}(f:wj l m)(g:wj m n):wj l n:=by rcases f with f | ⟨i,f⟩<;>rcases g with g | ⟨j,g⟩;{exact .inl zo};{exact .inl zo};{exact .inl zo};{exact .inr ⟨by omega,vN f g⟩}
theorem Im(l m:List Int):wj l m\/l=m\/wj m l:=by rcases UL l.length m.length with h | h | h;{exact .inl (.inl h)};{rcases vd l m with h2 | rfl | h2;{exact .inl (.inr ⟨h,h2⟩)};{exact .inr (.inl rfl)};{exact .inr (.inr (.inr ⟨h.symm,h2⟩))}};{exact .inr (.inr (.inl h))}
theorem gi(l:List Int):tR l l:=.inr rfl
theorem kv{l m n:List Int}(f:tR l m)(g:tR m n):tR l n:=by rcases f with f | rfl;{rcases g with g | rfl;{exact .inl (mE f g)};{exact .inl f}};{exact g}
theorem M6{l m n:List Int}(g:wj l m)(f:tR m n):wj l n:=by rcases f with f | rfl;{exact mE g f};{exact g}
theorem rX{l m n:List Int}(f:tR l m)(g:wj m n):wj l n:=by rcases f with f | rfl;{exact mE f g};{exact g}
theorem pC(l m:List Int):tR l m\/wj m l:=by rcases Im l m with h | h | h;{exact .inl (.inl h)};{exact .inl (.inr h)};{exact .inr h}
theorem wM{l m:List Int}(h:tR l m):l.length<=m.length:=by rcases h with (h | h) | rfl<;>omega
theorem yh{a b:List Int}(x y:List Int)(h:wj a b)(f:tR x y):wj (a++x) (b++y):=by have g:=wM f;rcases h with h | ⟨e,h⟩;{exact .inl (by simp;omega)};{by_cases i:x.length=y.length;{exact .inr ⟨by simp;omega,Az x y e h⟩};{exact .inl (by simp;omega)}}
theorem rO(a:List Int){x y:List Int}(h:wj x y):wj (a++x) (a++y):=by rcases h with h | ⟨e,h⟩;{exact .inl (by simp;omega)};{exact .inr ⟨by simp;omega,Ai a h⟩}
theorem HE{a b x y:List Int}(h:tR a b)(f:tR x y):tR (a++x) (b++y):=by rcases h with h | rfl;{exact .inl (yh x y h f)};{rcases f with f | rfl;{exact .inl (rO a f)};{exact .inr rfl}}
theorem Lf(a:Int){x y:List Int}(h:tR x y):tR (a::x) (a::y):=HE (gi [a]) h
theorem E1(a:Int){x y:List Int}(h:wj x y):wj (a::x) (a::y):=rO [a] h
def qJ(a b:Tree):Prop:=wj a.pre b.pre
def Df(a b:Tree):Prop:=tR a.pre b.pre
def K6:List Tree->List Tree->Prop
 | [],[]=>True
 | a::l,b::m=>Df a b/\K6 l m
 | _,_=>False
theorem Hx:∀{l m:List Tree},K6 l m->tR (bT l) (bT m)
 | [],[],_=>gi _
 | a::l,b::m,h=>HE h.1 (Hx h.2)
 | [],_::_,h=>h.elim
 | _::_,[],h=>h.elim
theorem Es:∀{l:List Tree} {i:Nat} {u t:Tree},l[i]?=some u->qJ t u->wj (bT (l.set i t)) (bT l)
 | [],_,_,_,h,_=>by simp at h
 | a::l,0,u,t,h,f=>by{obtain rfl:a=u:=by{simpa using h};exact yh _ _ f (gi _)}
 | a::l,i+1,u,t,h,f=>rO _ (Es (i:=i) (by simpa using h) f)
theorem AO:∀{l:List Tree} {i:Nat} {u t:Tree},l[i]?=some u->qJ u t->wj (bT l) (bT (l.set i t))
 | [],_,_,_,h,_=>by simp at h
 | a::l,0,u,t,h,f=>by{obtain rfl:a=u:=by{simpa using h};exact yh _ _ f (gi _)}
 | a::l,i+1,u,t,h,f=>rO _ (AO (i:=i) (by simpa using h) f)
theorem kZ:∀{l:List Tree} {t:Tree},t∈l->t.pre.length<=(bT l).length
 | a::l,t,h=>by{show _<=(a.pre++bT l).length;rw[q0];rcases IN.1 h with rfl | h;{omega};{have:=kZ h;omega}}
theorem KO{r:Int}{t:Nat}{ks:List Tree}{k:Tree}(h:k∈ks):qJ k (.mk r t ks):=by refine .inl ?_;show _<(r::bT ks).length;have:=kZ h;simp only[If];omega
structure Fo where
 n:Nat
 leaf:Nat->Option Nat
 cg:Nat->List gZ
mutual
inductive NT(f:Fo):Nat->Tree->Prop
 | leaf {v t:Nat}:v<f.n->f.leaf v=some t->NT f v (.mk (-1) t [])
 | node {v:Nat} {p:gZ} {ts:List Tree}:v<f.n->f.leaf v=none->p∈f.cg v->rI f p.kids ts->NT f v (.mk p.aB 0 ts)
inductive rI(f:Fo):List Nat->List Tree->Prop
 | nil:rI f [] []
 | cons {k:Nat} {t:Tree} {ks:List Nat} {ts:List Tree}:NT f k t->rI f ks ts->rI f (k::ks) (t::ts)
end
structure Fo.Good(f:Fo):Prop where
 kids:∀v,v<f.n->∀p∈f.cg v,p.kids.length<=4/\∀k∈p.kids,k<f.n
 dec:∀v T T',NT f v T->NT f v T'->T.pre=T'.pre->T=T'
 uniq:∀v,v<f.n->f.leaf v=none->∀(a b:Nat) (p q:gZ),(f.cg v)[a]?=some p->(f.cg v)[b]?=some q->p.aB=q.aB->∀ts,rI f p.kids ts->rI f q.kids ts->a=b
theorem rI.len{f:Fo}:∀{ks:List Nat} {ts:List Tree},rI f ks ts->ts.length=ks.length
 | [],[],_=>rfl
 | _::_,_::_,.cons _ h=>by simp[rI.len h]
theorem rI.at_{f:Fo}:∀{ks:List Nat} {ts:List Tree},rI f ks ts->∀{i k:Nat} {t:Tree},ks[i]?=some k->ts[i]?=some t->NT f k t
 | _::_,_::_,.cons h l,0,k,t,g,j=>by simp at g j;subst g j;exact h
 | _::_,_::_,.cons h l,i+1,k,t,g,j=>rI.at_ l (by simpa using g) (by simpa using j)
 | [],[],_,i,k,t,g,_=>by simp at g
theorem rI.L3{f:Fo}:∀{ks:List Nat} {ts:List Tree},ts.length=ks.length->(∀(i k:Nat) (t:Tree),ks[i]?=some k->ts[i]?=some t->NT f k t)->rI f ks ts
 | [],[],_,_=>.nil
 | [],_::_,h,_=>by simp at h
 | _::_,[],h,_=>by simp at h
 | k::ks,t::ts,h,g=>.cons (g 0 k t rfl rfl) (rI.L3 (by simpa using h) λi k t j l=>g (i+1) k t (by simpa using j) (by simpa using l))
theorem rI.set{f:Fo}{ks:List Nat}{ts:List Tree}(h:rI f ks ts){i k:Nat}{t:Tree}(hk:ks[i]?=some k)(o:NT f k t):rI f ks (ts.set i t):=by refine rI.L3 (by rw[Su];exact h.len) λj k' p l g=>?_;rw[Tn] at g;split at g;{rename_i e;subst e;rw[hk] at l;cases l;split at g;{cases g;exact o};{cases g}};{exact h.at_ l g}
structure aO where
 node:Nat
 pack:Nat
 r0:Nat
 r1:Nat
 r2:Nat
 r3:Nat
deriving DecidableEq
def aO.bV(c:aO):List Nat:=[c.r0,c.r1,c.r2,c.r3]
def aO.inc(c:aO):Nat->aO
 | 0=>{ c with r0:=c.r0+1 }
 | 1=>{ c with r1:=c.r1+1 }
 | 2=>{ c with r2:=c.r2+1 }
 | 3=>{ c with r3:=c.r3+1 }
 | _=>c
theorem aO.IV(c:aO){i r:Nat}(h:c.bV[i]?=some r):(c.inc i).bV=c.bV.set i (r+1):=by match i,h with| 0,h=>{simp[aO.bV] at h;subst h;rfl}| 1,h=>{simp[aO.bV] at h;subst h;rfl}| 2,h=>{simp[aO.bV] at h;subst h;rfl}| 3,h=>{simp[aO.bV] at h;subst h;rfl}| _+4,h=>{simp[aO.bV] at h}
theorem aO.Ki(c:aO)(i:Nat):(c.inc i).node=c.node/\(c.inc i).pack=c.pack:=by match i with| 0 | 1 | 2 | 3=>{exact⟨rfl,rfl⟩}| _+4=>{exact⟨rfl,rfl⟩}
theorem aO.Qy{c d:aO}(g:c.node=d.node)(i:c.pack=d.pack)(f:c.bV=d.bV):c=d:=by cases c;cases d;simp[aO.bV] at f;simp_all
def pick(L:Nat->List Tree):List Nat->List Nat->Option (List Tree)
 | [],_=>some []
 | k::ks,r::rs=>match (L k)[r]? with
  | some t=>match pick L ks rs with
   | some ts=>some (t::ts)
   | none=>none
  | none=>none
 | _::_,[]=>none
def mq(L:Nat->List Tree):List Nat->List Nat->Option (Nat×Nat)
 | k::ks,r::rs=>match (L k)[r]? with
  | some _=>mq L ks rs
  | none=>some (k,r)
 | _,_=>none
theorem cI{L:Nat->List Tree}:∀{ks rs:List Nat} {ts:List Tree},pick L ks rs=some ts->ts.length=ks.length/\∀(i k:Nat),ks[i]?=some k->∃(r:Nat) (t:Tree),rs[i]?=some r/\(L k)[r]?=some t/\ts[i]?=some t
 | [],_,ts,h=>by{cases h;exact⟨rfl,λi k h=>by simp at h⟩}
 | k::ks,[],_,h=>by cases h
 | k::ks,r::rs,ts,h=>by{unfold pick at h;split at h;{rename_i t g;split at h;{rename_i j f;cases h;obtain⟨l,o⟩:=cI f;refine⟨by simp[l],λi k' hk=>?_⟩;cases i with|zero=>{obtain rfl:k=k':=by{simpa using hk};exact⟨r,t,rfl,g,rfl⟩}|succ i=>{obtain⟨p,C,I,J,P⟩:=o i k' (by simpa using hk);exact⟨p,C,by simpa using I,J,by simpa using P⟩}};{cases h}};{cases h}}
theorem wC{L:Nat->List Tree}:∀{ks rs:List Nat} {ts:List Tree},ts.length=ks.length->(∀(i k:Nat),ks[i]?=some k->∃(r:Nat) (t:Tree),rs[i]?=some r/\(L k)[r]?=some t/\ts[i]?=some t)->pick L ks rs=some ts
 | [],_,ts,h,_=>by{obtain rfl:ts=[]:=D1 h;rfl}
 | k::ks,rs,[],h,_=>by simp at h
 | k::ks,rs,t::ts,h,f=>by{obtain⟨r,j,g,l,o⟩:=f 0 k rfl;obtain rfl:t=j:=by{simpa using o};cases rs with|nil=>simp at g|cons p rs=>{obtain rfl:p=r:=by{simpa using g};have C:=wC (L:=L) (ks:=ks) (rs:=rs) (ts:=ts) (by simpa using h) (λi k hk=>by{obtain⟨r,t,I,J,P⟩:=f (i+1) k (by simpa using hk);exact⟨r,t,by simpa using I,J,by simpa using P⟩});unfold pick;simp only[l,C]}}
theorem Ao{L:Nat->List Tree}:∀{ks rs:List Nat},ks.length<=rs.length->mq L ks rs=none->∃ts,pick L ks rs=some ts
 | [],_,_,_=>⟨[],rfl⟩
 | k::ks,[],h,_=>by simp at h
 | k::ks,r::rs,h,f=>by{unfold mq at f;split at f;{rename_i t i;obtain⟨ts,g⟩:=Ao (by simpa using h) f;exact⟨t::ts,by unfold pick;simp only[i,g]⟩};{cases f}}
theorem j9{L:Nat->List Tree}:∀{ks rs:List Nat} {k r:Nat},mq L ks rs=some (k,r)->∃i:Nat,ks[i]?=some k/\rs[i]?=some r/\(L k)[r]?=none
 | [],_,_,_,h=>by cases h
 | _::_,[],_,_,h=>by cases h
 | k0::ks,r0::rs,k,r,h=>by{unfold mq at h;split at h;{obtain⟨i,f,g,j⟩:=j9 h;exact⟨i+1,by simpa using f,by simpa using g,j⟩};{rename_i l;cases h;exact⟨0,rfl,rfl,l⟩}}
def I5(L f:Nat->List Tree):Prop:=∀v,∃x,f v=L v++x
theorem I5.at_{L f:Nat->List Tree}(h:I5 L f){v r:Nat}{t:Tree}(g:(L v)[r]?=some t):(f v)[r]?=some t:=by obtain⟨x,i⟩:=h v;rw[i,By (gS g).1];exact g
theorem Jh{L f:Nat->List Tree}(h:I5 L f){ks rs:List Nat}{ts:List Tree}(g:pick L ks rs=some ts):pick f ks rs=some ts:=by obtain⟨j,l⟩:=cI g;exact wC j λi k hk=>by{obtain⟨r,t,o,p,C⟩:=l i k hk;exact⟨r,t,o,h.at_ p,C⟩}
theorem Bd{L g:Nat->List Tree}(h:I5 L g):∀{ks rs:List Nat} {k r:Nat},mq L ks rs=some (k,r)->(g k)[r]?=none->mq g ks rs=some (k,r)
 | [],_,_,_,f,_=>by cases f
 | _::_,[],_,_,f,_=>by cases f
 | k0::ks,r0::rs,k,r,f,i=>by{unfold mq at f;split at f;{rename_i t j;have:=h.at_ j;unfold mq;simp only[this];exact Bd h f i};{cases f;unfold mq;simp only[i]}}
structure Lr where
 aB:Nat
 dot:Nat
deriving DecidableEq,Inhabited
def gg:Ty Lr where
 size:=2
 rel:=λ_ l x=>l=[.int .i64 x.aB,.int .i64 x.dot]
 len:=λ_ _ _ h=>by rw[h];rfl
 one:=λ_ _ _ h=>by rw[h];rfl
 mono:=λ_ _ _ _ _ h=>h
theorem Cr(F:aw){a:Option Addr}{m c:Nat}{xs:List Lr}(hx:a7 gg F a m c xs)(hm:m<=1000000) :
  Abs.Spec CC 193 [.slice a m c] F [] λC v o=>∃f,o=[f]/\∃g i,v=.slice g m i/\er gg C g m i f xs:=by refine Abs.Spec.fn (n:=8) Tryz.func193 rfl rfl λown=>?_;refine aq ?_;refine WT.oM hT Z Z Z Z Z Z Z Z (aq ?_);refine AW.cond Z (λh=>?_) (λh=>?_);{exact J6};{refine aq ?_;refine WT.aS hT Z Z Z Z Z Z Z Z Z Z Z Z Z Z (λi5 I=>?_);refine aq ?_;obtain⟨R,j,l⟩:=mO hT hx (t:=259) rfl rfl 181;refine WT.BT hT Z Z Z Z Z Z Z Z Z Z Z Z (λJ P=>j _ J P) l hx.len (by decide) gT (λg i f r _=>?_);refine aq ?_;refine AW.le (ah.cons _ (ah.skip _ oR)) (AW.ret ⟨_,[_],⟨_,_,rfl,rfl,rfl⟩,bw,_,rfl,_,_,rfl,r⟩)}
def qR(x y:Lr):Bool:=decide (x.aB<y.aB\/(x.aB=y.aB/\x.dot<y.dot))
theorem kD{x y:Lr}:qR x y=true↔(x.aB<y.aB\/(x.aB=y.aB/\x.dot<y.dot)):=by unfold qR;exact decide_eq_true_iff
theorem tB{x y:Lr}:qR x y=false↔¬(x.aB<y.aB\/(x.aB=y.aB/\x.dot<y.dot)):=by unfold qR;exact decide_eq_false_iff_not
theorem Lx:Go.Sort.SWO qR where
 irrefl:=λx=>by rw[tB];omega
 trans:=λx y z f g=>by rw[kD] at *;omega
 ntrans:=λx y z f g=>by rw[tB] at *;omega
theorem Jz(x y:Lr)(f:qR x y=false)(g:qR y x=false):x=y:=by rw[tB] at *;cases x;cases y;simp only at f g;simp only[Lr.mk.injEq];omega
theorem LD(x y:Lr):jR [aY x.aB y.aB,aY x.dot y.dot]<0↔qR x y=true:=by rw[kD];simp only[jR];unfold aY;repeat' split;all_goals omega
theorem C5(F:aw)(x y:Lr):Abs.Spec CC 196 [.agg ⟨[.int .i64 x.aB,.int .i64 x.dot]⟩,.agg ⟨[.int .i64 y.aB,.int .i64 y.dot]⟩] F [] λ_ v o=>o=[]/\v=.int .i64 (jR [aY x.aB y.aB,aY x.dot y.dot]):=by refine Abs.Spec.fn (n:=17) Tryz.func196 rfl rfl λown=>?_;refine AW.seq (AW.fj ?_);refine WT.bZ Z Z Z Z Z Z (λi2 i=>?_);refine WT.bZ Z Z Z Z Z Z (λi3 j=>?_);refine aq ?_;refine AW.draw (ps:=[(6,4),(8,4)]) Z Z (aq ?_);refine WT.aX Tryz.func124 Z Z Z Z Z Z (du _ _ _) (λv f=>?_);subst f;refine aq ?_;refine WT.aX Tryz.func124 Z Z Z Z Z Z (du _ _ _) (λv f=>?_);subst f;refine WT.aS hT Z Z Z Z Z Z Z Z Z Z Z Z Z Z (λi9 r=>?_);refine WT.jC 0 Tryz.func123 Z Z Z Z Z Z Z (λG t g=>wH G (l:=[aY x.aB y.aB,aY x.dot y.dot]) (cu.frozen (F:=F) (B:=[(i9,.cells false [.int .i64 (aY x.aB y.aB),.int .i64 (aY x.dot y.dot)])]) ⟨rfl,.inr ⟨i9,_,rfl,rfl,rfl,aF.cons (l:=[_]) Z (aF.single (x:=aY x.dot y.dot) rfl),by decide⟩⟩ t g) (by decide)) (λv f=>?_);subst f;refine aq ?_;refine⟨k9,?_⟩;exact AW.ret ⟨_,[],⟨_,_,rfl,rfl,rfl⟩,bw,rfl,rfl⟩
theorem EG(F:aw):eE gg qR F 196 [] []:=
 ⟨⟨_,Tryz.func196,rfl⟩,λG _ f g x y i j=>by{obtain rfl:f=_:=i;obtain rfl:g=_:=j;exact Spec.mono (C5 G x y) (λl v o _ h=>⟨h.1,_,h.2,LD x y⟩)}⟩
theorem Bw(F:aw){a:Option Addr}{m c:Nat}{xs:List Lr}(J:a7 gg F a m c xs)(hm:m<=1000000)(x:Lr) :
  Abs.Spec CC 221 [.slice a m c,.agg ⟨[.int .i64 x.aB,.int .i64 x.dot]⟩] F [] λ_ v o=>o=[]/\∃i:Int,v=.int .i64 i/\(0<=i↔x∈xs):=by refine Abs.Spec.fn (n:=19) Tryz.func221 rfl rfl λown=>?_;have t:=J.len;refine AW.seq (AW.fj ?_);refine WT.bZ Z Z Z Z Z Z (λi3 P=>?_);refine aq ?_;refine AW.range (S:=Unit) (λ_=>[]) (λ_=>_) (λj _ G=>x∉xs.take j) m () Z Z Z Z Z Z Z Z Z zo Z Z (λ_=>rfl) (λ_=>rfl) sM oR (by simp) ?_ ?_;{intro j _ R f hj r;have C:=J.mono f;refine aq ?_;refine WT.bk hT C Z Z Z Z Z Z Z Z Z zo (λy g b1 off ro cs U hb aa l=>?_);obtain rfl:U=_:=l;refine aq ?_;refine AW.cond Z (λI=>?_) (λI=>?_);{refine aq ?_;have e:x=y:=by{simp at I;cases x;cases y;simp only[Lr.mk.injEq] at *;omega};subst e;refine AW.ret ⟨_,[],⟨_,_,rfl,rfl,rfl⟩,bw,rfl,_,rfl,?_⟩;exact⟨λ_=>gM g,λ_=>by omega⟩};{refine aq ?_;refine⟨(),sM,c7,?_⟩;show x∉xs.take (j+1);rw[yf,g];intro hm;rcases AI.1 hm with h | h;{exact r h};{have e:x=y:=by{simpa using h};subst e;simp at I}}};{intro _ R f r;rw[pf zo] at r;refine aq ?_;exact AW.ret ⟨_,[],⟨_,_,rfl,rfl,rfl⟩,bw,rfl,_,rfl,by simp[r]⟩}
theorem wA(F:aw){a:Option Addr}{m c:Nat}{xs:List Lr}(f:a7 gg F a m c xs)(hm:m<=1000000)(x:Lr) :
  Abs.Spec CC 194 [.slice a m c,.agg ⟨[.int .i64 x.aB,.int .i64 x.dot]⟩] F [] λ_ v o=>o=[]/\v=.bool (decide (x∈xs)):=by refine Abs.Spec.fn (n:=9) Tryz.func194 rfl rfl λown=>?_;refine AW.seq (AW.fj ?_);refine WT.bZ Z Z Z Z Z Z (λi3 g=>?_);refine aq ?_;refine WT.aX Tryz.func221 Z Z Z Z Z Z (Bw _ f hm x) (λv j=>?_);obtain⟨i,rfl,hi⟩:=j;refine aq ?_;refine AW.ret ⟨_,[],⟨_,_,rfl,rfl,rfl⟩,bw,rfl,?_⟩;rw[show decide (x∈xs)=decide (0<=i) from by simp[hi]];rfl
namespace Nlr
abbrev dt:=Lr
abbrev CD:=Tryz.func246
abbrev cN:=gg
end Nlr
open Nlr in
theorem Gi(F:aw){lt:Lr->Lr->Bool}{g:Nat}{first capt:List Value}(hc:eE gg lt F g first capt){a0:Option Addr}{m c:Nat}{B:List (Nat×aC)}{d:Array Lr}(hv:er gg F a0 m c B d.toList)(a b:Nat)(l:a<=1000000)(r:b<=m)(hm:m<=1000000) :
  Abs.Spec CC 246 [.slice a0 m c,.int .i64 a,.int .i64 b,.func (.func g) ⟨first⟩ ⟨capt⟩] F [B] λi v o=>∃f,o=[f]/\er gg i a0 m c f (Go.Sort.insertionSort lt d a b).toList:=oJ
namespace Nlr
abbrev s9:=Tryz.func273
end Nlr
open Nlr in
theorem EO(F:aw){lt:Lr->Lr->Bool}{g:Nat}{first capt:List Value}(hc:eE gg lt F g first capt){a0:Option Addr}{m c:Nat}{B:List (Nat×aC)}{d:Array Lr}(hv:er gg F a0 m c B d.toList)(lo hi fst:Nat)(hlo:lo<=1000000)(j:fst+hi<=m)(hm:m<=1000000) :
  Abs.Spec CC 273 [.slice a0 m c,.int .i64 lo,.int .i64 hi,.int .i64 fst,.func (.func g) ⟨first⟩ ⟨capt⟩] F [B] λi v o=>∃f,o=[f]/\er gg i a0 m c f (Go.Sort.siftDown lt hi fst lo d).toList:=nK
namespace Nlr
abbrev CU:=Tryz.func247
abbrev yD:=@EO
end Nlr
open Nlr in
theorem Dq(F:aw){lt:Lr->Lr->Bool}{g:Nat}{first capt:List Value}(hc:eE gg lt F g first capt){a0:Option Addr}{m c:Nat}{B:List (Nat×aC)}{d:Array Lr}(hv:er gg F a0 m c B d.toList)(a b:Nat)(i:a<b)(r:b<=m)(hm:m<=1000000) :
  Abs.Spec CC 247 [.slice a0 m c,.int .i64 a,.int .i64 b,.func (.func g) ⟨first⟩ ⟨capt⟩] F [B] λl v o=>∃f,o=[f]/\er gg l a0 m c f (Go.Sort.heapSort lt d a b).toList:=nS
namespace Nlr
abbrev Cf:=Tryz.func250
end Nlr
open Nlr in
theorem FF(F:aw){g:Value}{a0:Option Addr}{m c:Nat}{B:List (Nat×aC)}{d:Array Lr}(hv:er gg F a0 m c B d.toList)(a b:Nat)(i:a<b)(l:b<=m)(hm:m<=1000000) :
  Abs.Spec CC 250 [.slice a0 m c,.int .i64 a,.int .i64 b,g] F [B] λj v o=>∃f,o=[f]/\er gg j a0 m c f (Go.Sort.reverseRange d a b).toList:=oo
namespace Nlr
abbrev zH:=Tryz.func253
end Nlr
open Nlr in
theorem EJ(F:aw){lt:Lr->Lr->Bool}{g:Nat}{first capt:List Value}(hc:eE gg lt F g first capt){a0:Option Addr}{m c:Nat}{B:List (Nat×aC)}{d:Array Lr}(hv:er gg F a0 m c B d.toList)(a b pivot:Nat)(l:a<=pivot)(r:pivot<b)(C:b<=m)(hm:m<=1000000) :
  Abs.Spec CC 253 [.slice a0 m c,.int .i64 a,.int .i64 b,.int .i64 pivot,.func (.func g) ⟨first⟩ ⟨capt⟩] F [B] λt v o=>∃f,o=[f]/\v=.tuple ⟨[.int .i64 ((Go.Sort.partition lt d a b pivot).1:Nat),.bool (Go.Sort.partition lt d a b pivot).2.1]⟩/\er gg t a0 m c f (Go.Sort.partition lt d a b pivot).2.2.toList:=nJ
namespace Nlr
abbrev BH:=Tryz.func252
end Nlr
open Nlr in
theorem z0(F:aw){lt:Lr->Lr->Bool}{g:Nat}{first capt:List Value}(hc:eE gg lt F g first capt){a0:Option Addr}{m c:Nat}{B:List (Nat×aC)}{d:Array Lr}(hv:er gg F a0 m c B d.toList)(a b pivot:Nat)(l:a<=pivot)(r:pivot<b)(C:b<=m)(hm:m<=1000000) :
  Abs.Spec CC 252 [.slice a0 m c,.int .i64 a,.int .i64 b,.int .i64 pivot,.func (.func g) ⟨first⟩ ⟨capt⟩] F [B] λt v o=>∃f,o=[f]/\v=.int .i64 ((Go.Sort.partitionEqual lt d a b pivot).1:Nat)/\er gg t a0 m c f (Go.Sort.partitionEqual lt d a b pivot).2.toList:=lv
namespace Nlr
abbrev oG:=Tryz.func282
end Nlr
open Nlr in
theorem z3(F:aw){lt:Lr->Lr->Bool}{g:Nat}{first capt:List Value}(hc:eE gg lt F g first capt){f:Option Addr}{m c:Nat}{d:Array Lr}(hv:a7 gg F f m c d.toList)(a b:Nat)(l:a<m)(r:b<m)(hm:m<=1000000){ip sw:Nat}(j:sw<=1000) :
  Abs.Spec CC 282 [.slice f m c,.int .i64 a,.int .i64 b,.pointer (some ⟨ip,0,none⟩),.func (.func g) ⟨first⟩ ⟨capt⟩] F [[(ip,.cells false [.int .i64 sw])]] λt v o=>∃i,o=[i]/\v=.tuple ⟨[.int .i64 ((Go.Sort.order2 lt d a b sw).1:Nat),.int .i64 ((Go.Sort.order2 lt d a b sw).2.1:Nat)]⟩/\i=[(ip,.cells false [.int .i64 ((Go.Sort.order2 lt d a b sw).2.2:Nat)])]:=lh
namespace Nlr
abbrev yk:=Tryz.func275
abbrev th:=@z3
end Nlr
open Nlr in
theorem qj(F:aw){lt:Lr->Lr->Bool}{g:Nat}{first capt:List Value}(hc:eE gg lt F g first capt){f:Option Addr}{m i:Nat}{d:Array Lr}(hv:a7 gg F f m i d.toList)(a b c:Nat)(ha:a<m)(hb:b<m)(hcm:c<m)(hm:m<=1000000){ip sw:Nat}(l:sw<=900) :
  Abs.Spec CC 275 [.slice f m i,.int .i64 a,.int .i64 b,.int .i64 c,.pointer (some ⟨ip,0,none⟩),.func (.func g) ⟨first⟩ ⟨capt⟩] F [[(ip,.cells false [.int .i64 sw])]] λt v o=>∃j,o=[j]/\v=.int .i64 ((Go.Sort.median lt d a b c sw).1:Nat)/\j=[(ip,.cells false [.int .i64 ((Go.Sort.median lt d a b c sw).2:Nat)])]:=lH
theorem Ag(F:aw){lt:Lr->Lr->Bool}{g:Nat}{first capt:List Value}(t:eE gg lt F g first capt){j:Option Addr}{m l:Nat}{d:Array Lr}(C:a7 gg F j m l d.toList)(a:Nat)(J:1<=a)(P:a+1<m)(hm:m<=1000000){ip sw:Nat}(f:sw<=900) :
  Abs.Spec CC 274 [.slice j m l,.int .i64 a,.pointer (some ⟨ip,0,none⟩),.func (.func g) ⟨first⟩ ⟨capt⟩] F [[(ip,.cells false [.int .i64 sw])]] λR v o=>∃r,o=[r]/\v=.int .i64 ((Go.Sort.medianAdjacent lt d a sw).1:Nat)/\r=[(ip,.cells false [.int .i64 ((Go.Sort.medianAdjacent lt d a sw).2:Nat)])]:=by refine Abs.Spec.fn (n:=18) Tryz.func274 rfl rfl λown=>?_;refine ai ?_;refine WT.cC 0 Tryz.func275 Z Z Z Z Z Z Z (λ_=>rfl) (qj _ t C (a-1) a (a+1) zo zo zo hm f) (λU v B1 I i=>?_);obtain⟨rfl,rfl⟩:=i;refine ai ?_;exact AW.ret ⟨_,[_],⟨_,_,rfl,rfl,rfl⟩,bw,_,rfl,rfl,rfl⟩
namespace Nlr
abbrev Dd:=Tryz.func249
abbrev tK:=Tryz.func274
abbrev rW:=@Ag
abbrev Ez:=@qj
end Nlr
open Nlr in
theorem Cw(F:aw){lt:Lr->Lr->Bool}{g:Nat}{first capt:List Value}(hc:eE gg lt F g first capt){f:Option Addr}{m i:Nat}{d:Array Lr}(hv:a7 gg F f m i d.toList)(a b:Nat)(j:a+13<=b)(l:b<=m)(hm:m<=1000000) :
  Abs.Spec CC 249 [.slice f m i,.int .i64 a,.int .i64 b,.func (.func g) ⟨first⟩ ⟨capt⟩] F [] λt v o=>o=[]/\v=.tuple ⟨[.int .i64 ((Go.Sort.choosePivot lt d a b).1:Nat),.int .i64 (Go.Sort.hintCode (Go.Sort.choosePivot lt d a b).2)]⟩:=mF
namespace Nlr
abbrev BA:=Tryz.func251
end Nlr
open Nlr in
theorem EW(F:aw){lt:Lr->Lr->Bool}{g:Nat}{first capt:List Value}(hc:eE gg lt F g first capt){a0:Option Addr}{m c:Nat}{B:List (Nat×aC)}{d:Array Lr}(hv:er gg F a0 m c B d.toList)(a b:Nat)(hab:a<b)(l:b<=m)(hm:m<=1000000) :
  Abs.Spec CC 251 [.slice a0 m c,.int .i64 a,.int .i64 b,.func (.func g) ⟨first⟩ ⟨capt⟩] F [B] λj v o=>∃f,o=[f]/\v=.bool (Go.Sort.partialInsertionSort lt d a b).2/\er gg j a0 m c f (Go.Sort.partialInsertionSort lt d a b).1.toList:=nO
namespace Nlr
abbrev Cy:=Tryz.func248
end Nlr
open Nlr in
theorem De(F:aw){g:Value}{a0:Option Addr}{m c:Nat}{B:List (Nat×aC)}{d:Array Lr}(hv:er gg F a0 m c B d.toList)(a b:Nat)(i:a+13<=b)(t:b<=m)(hm:m<=1000000) :
  Abs.Spec CC 248 [.slice a0 m c,.int .i64 a,.int .i64 b,g] F [B] λj v o=>∃f,o=[f]/\er gg j a0 m c f (Go.Sort.breakPatterns d a b).toList:=mD
namespace Nlr
abbrev tD:=Tryz.func222
abbrev Ey:=@De
abbrev DL:=@Dq
abbrev Fy:=@Gi
abbrev DD:=@EW
abbrev Fx:=@z0
abbrev DC:=@EJ
abbrev E7:=@Cw
abbrev EB:=@FF
end Nlr
open Nlr in
theorem u6{lt:Lr->Lr->Bool}{g:Nat}{first capt:List Value}:∀(N:Nat) (F:aw) (hc:eE gg lt F g first capt) {a0:Option Addr} {m c:Nat} {B:List (Nat×aC)} {d:Array Lr} (hv:er gg F a0 m c B d.toList) (a b limit:Nat) (i:b-a<N) (hab:a<=b) (hb:b<=m) (hm:m<=1000000) (hlim:limit<=1000000),
  Abs.Spec CC 222 [.slice a0 m c,.int .i64 a,.int .i64 b,.int .i64 limit,.func (.func g) ⟨first⟩ ⟨capt⟩] F [B] λj v o=>∃f,o=[f]/\er gg j a0 m c f (Go.Sort.pdq lt d a b limit true true).toList
 | 0,_,_,_,_,_,_,_,_,_,_,_,h,_,_,_,_=>absurd h (SJ _)
 | N+1,F,hc,a0,m,c,B,d,hv,a,b,limit,i,hab,hb,hm,hlim=>by have zzrec:=@u6 lt g first capt N;exact nR
namespace Nlr
abbrev HY:=Tryz.func195
abbrev Eb:=@u6
end Nlr
open Nlr in
theorem Dk(F:aw){lt:Lr->Lr->Bool}{g:Nat}{first capt:List Value}(hc:eE gg lt F g first capt){f:Option Addr}{m c:Nat}{B:List (Nat×aC)}{xs:List Lr}(hv:er gg F f m c B xs)(hm:m<=1000000) :
  Abs.Spec CC 195 [.slice f m c,.func (.func g) ⟨first⟩ ⟨capt⟩] F [B] λj v o=>∃i,o=[i]/\er gg j f m c i (Go.Sort.sort lt xs.toArray).toList:=nN
def QO(l:List Lr):Prop:=l.Pairwise (λx y=>qR y x=false)
def gp(l:List Lr):Prop:=l.Pairwise (λx y=>qR x y=true)
theorem Fp{xs:List Lr}(h:QO xs){j:Nat}{x p z:Lr}(l:xs[j]?=some x)(f:xs[j-1]?=some p)(R:0<j)(o:x≠p)(P:z∈xs.take j):qR z x=true:=by unfold QO at h;rw[Sz] at h;obtain⟨r,l⟩:=gS l;obtain⟨g,f⟩:=gS f;have C:=h (j-1) j g r zo;rw[l,f] at C;have I:qR p x=true:=by{cases e:qR p x with|true=>rfl|false=>{exact absurd (Jz _ _ C e) o}};obtain⟨i,hi,rfl⟩:=UE P;rw[R5] at hi;rw[List.getElem_take];have t:i<xs.length:=by{omega};rcases AT i (j-1) with h3 | h3;{have J:=h i (j-1) t g h3;rw[f] at J;rw[tB] at J;rw[kD] at I |-;omega};{obtain rfl:i=j-1:=by{omega};rw[f];exact I}
theorem mK{xs:List Lr}{j:Nat}{x:Lr}(f:xs[j]?=some x):xs.take (j+1)=xs.take j++[x]:=by rw[yf,f];rfl
theorem E4{xs:List Lr}{j:Nat}{p:Lr}(f:xs[j-1]?=some p)(g:0<j):p∈xs.take j:=by refine gM (i:=j-1) ?_;rw[Sg,nw zo,f]
structure Rw where
 i:Nat
 q:Nat
 ys:List Lr
 B:List (Nat×aC)
theorem x6(F:aw){a:Option Addr}{m c:Nat}{B:List (Nat×aC)}{xs:List Lr}(hv:er gg F a m c B xs)(hm:m<=1000000)(hs:QO xs) :
  Abs.Spec CC 197 [.slice a m c] F [B] λF' v o=>o=[]/\∃a' m' c' zs,v=.slice a' m' c'/\a7 gg F' a' m' c' zs/\m'<=m/\gp zs/\∀z,z∈zs↔z∈xs:=by have r:=hv.len;refine Abs.Spec.fn (n:=61) Tryz.func197 rfl rfl λown=>?_;refine ai ?_;refine AW.cond Z (λh=>?_) (λh=>?_);{have h:m<2:=by{simp at h;omega};refine AW.ay 0 Z Z (λF1 aa a5=>?_);refine ai ?_;refine AW.ret ⟨_,[],⟨_,_,rfl,rfl,rfl⟩,bw,rfl,a,m,c,xs,rfl,hv.arr aa a5,mc _,?_,λ_=>Iff.rfl⟩;match xs,r with| [],_=>exact List.Pairwise.nil| [x],_=>exact TQ _ _| _::_::_,r=>{simp at r;omega}};have h:2<=m:=by{simp at h;omega};obtain⟨x0,ao⟩:∃x,xs[0]?=some x:=⟨_,gE zo⟩;obtain⟨ib,b3,rfl,rfl,bs,_⟩:=hv.at_ ao;obtain rfl:c=2:=by{rcases hv.cap with h5 | h5;{have:=hv.zero h5;omega};{exact h5}};refine ai ?_;refine AW.block (AW.cr (S:=Nat) (λi=>[(3,.int .i64 (i:Nat))]) (λ_=>_) (λi G=>1<=i/\i<=m/\gp (xs.take i)) (λi=>m-i) 1 sM oR ⟨mc _,by omega,?_⟩ ?_);{rw[mK (j:=0) ao];exact TQ _ _};intro i F1 aa hP;obtain⟨b4,b7,P⟩:=hP;have I:=hv.mono aa;refine ai ?_;refine AW.cond Z (λh2=>?_) (λh2=>?_);{have h2:i<m:=by{simpa using h2};obtain⟨x,hx⟩:∃x,xs[i]?=some x:=⟨_,gE zo⟩;obtain⟨p,hp⟩:∃x,xs[i-1]?=some x:=⟨_,gE zo⟩;refine ai ?_;refine AW.block (ai ?_);refine WT.bJ hT I Z Z Z Z Z Z Z Z Z h2 (λb5 ba=>?_);refine WT.cQ hT 0 I ba hx Z Z Z Z Z Z Z Z Z (λl r=>?_);obtain rfl:l=_:=r;refine ai ?_;refine WT.bJ hT I Z Z Z Z Z Z Z Z Z zo (λb6 ab=>?_);refine WT.cQ hT 0 I ab hp Z Z Z Z Z Z Z Z Z (λl r=>?_);obtain rfl:l=_:=r;refine ai ?_;refine AW.cond Z (λh3=>?_) (λh3=>?_);{have e:x=p:=by{simp at h3;cases x;cases p;simp only[Lr.mk.injEq] at *;omega};subst e;refine ai ?_;refine WT.slice Z Z Z Z Z Z Z Z (λh0=>vq (lo:=i) (hi:=m) hT Z Z Z Z Z zo (mc _) (.inr rfl) h0) (ai ?_);refine AW.block (AW.cr (S:=Rw) (λs=>[(3,.int .i64 (s.i:Nat)),(5,.int .i64 (s.q:Nat))]) (λs=>s.B::own) (λs G=>er gg G (some ⟨ib,0,none⟩) m 2 s.B s.ys/\1<=s.q/\i+s.q<=m/\s.i+1<=i+s.q/\s.ys.drop (i+s.q-1)=xs.drop (i+s.q-1)/\gp (s.ys.take s.i)/\∀z,z∈s.ys.take s.i↔z∈xs.take (i+s.q)) (λs=>m-s.q) ⟨i,1,xs,_⟩ sM oR ⟨I,mc _,by dsimp only;omega,mc _,rfl,P,λz=>?_⟩ ?_);{show z∈xs.take i↔z∈xs.take (i+1);rw[mK hx,AI];exact⟨.inl,λR=>R.elim id λR=>by{have e:z=x:=by{simpa using R};subst e;exact E4 hp zo}⟩};intro s F2 ap hP;obtain⟨f,ca,cc,cf,ar,J,g⟩:=hP;have bt:=f.len;refine ai ?_;refine AW.cond Z (λh4=>?_) (λh4=>?_);{have h4:i+s.q<m:=by{simp at h4;omega};refine ai ?_;refine AW.block (ai ?_);obtain⟨y,hy⟩:∃y,xs[i+s.q]?=some y:=⟨_,gE zo⟩;obtain⟨p2,ac⟩:∃y,xs[i+s.q-1]?=some y:=⟨_,gE zo⟩;have up:∀d,s.ys[i+s.q-1+d]?=xs[i+s.q-1+d]?:=λd=>by{rw[<-Sj,ar,Sj]};have av:s.ys[i+s.q]?=some y:=by{have:=up 1;rw[show i+s.q-1+1=i+s.q by omega] at this;rw[this,hy]};have bd:s.ys[i+s.q-1]?=some p2:=by{have:=up 0;rw[Tc] at this;rw[this,ac]};have U:s.ys.drop (i+s.q)=xs.drop (i+s.q):=by{have:=congrArg (List.drop 1) ar;rw[Up,Up,show i+s.q-1+1=i+s.q by omega] at this;exact this};refine WT.cz hT Z Z Z Z Z Z Z Z Z zo ?_;rw[show 0+i*2+s.q*2=(i+s.q)*2 by omega];refine WT.cQ hT 0 f Z av Z Z Z Z Z Z Z Z Z (λl r=>?_);obtain rfl:l=_:=r;refine ai ?_;refine WT.cz hT Z Z Z Z Z Z Z Z Z zo ?_;rw[show 0+i*2+(s.q-1)*2=(i+s.q-1)*2 by omega];refine WT.cQ hT 0 f Z bd Z Z Z Z Z Z Z Z Z (λl r=>?_);obtain rfl:l=_:=r;refine ai ?_;refine AW.cond Z (λh5=>?_) (λh5=>?_);{have ad:y≠p2:=by{rintro rfl;simp at h5};refine ai ?_;refine WT.cz hT Z Z Z Z Z Z Z Z Z zo ?_;rw[show 0+i*2+s.q*2=(i+s.q)*2 by omega];refine WT.cQ hT 0 f Z av Z Z Z Z Z Z Z Z Z (λl r=>?_);obtain rfl:l=_:=r;refine WT.bJ hT f Z Z Z Z Z Z Z Z Z zo (λb6 ab=>?_);obtain⟨z,R⟩:∃z,s.ys[s.i]?=some z:=⟨_,gE zo⟩;have be:s.i<s.ys.length:=by{omega};refine WT.rF (y:=y) hT 0 f ab R Z Z Z Z Z Z Z (λ_=>rfl) Z (λB6 ae=>?_);refine ai ?_;have ht:(s.ys.set s.i y).take (s.i+1)=s.ys.take s.i++[y]:=by{rw[yf,sj be,List.take_set_of_le (mc _)];rfl};refine⟨⟨s.i+1,s.q+1,s.ys.set s.i y,B6⟩,by dsimp only;omega,sM,c7,ae,by dsimp only;omega,by dsimp only;omega,by dsimp only;omega,?_,?_,λw=>?_⟩;{show (s.ys.set s.i y).drop (i+(s.q+1)-1)=xs.drop (i+(s.q+1)-1);rw[show i+(s.q+1)-1=i+s.q by omega,List.drop_set_of_lt zo,U]};{show gp ((s.ys.set s.i y).take (s.i+1));rw[ht];refine List.pairwise_append.2 ⟨J,TQ _ _,λw hw w2 af=>?_⟩;obtain rfl:w2=y:=by{simpa using af};exact Fp hs hy ac zo ad ((g w).1 hw)};{show w∈(s.ys.set s.i y).take (s.i+1)↔w∈xs.take (i+(s.q+1));rw[ht,<-Ts,mK hy,AI,AI,g]}};{have e:y=p2:=by{simp at h5;cases y;cases p2;simp only[Lr.mk.injEq] at *;omega};subst e;refine ai ?_;refine⟨⟨s.i,s.q+1,s.ys,s.B⟩,by dsimp only;omega,sM,c7,f,by dsimp only;omega,by dsimp only;omega,by dsimp only;omega,?_,J,λw=>?_⟩;{show s.ys.drop (i+(s.q+1)-1)=xs.drop (i+(s.q+1)-1);rw[show i+(s.q+1)-1=i+s.q by omega,U]};{show w∈s.ys.take s.i↔w∈xs.take (i+(s.q+1));rw[g,<-Ts,mK hy,AI];exact⟨.inl,λR=>R.elim id λR=>by{have e:w=y:=by{simpa using R};subst e;exact E4 ac zo}⟩}}};{have h4:i+s.q=m:=by{simp at h4;omega};refine AW.exit (ai ?_);refine WT.slice Z Z Z Z Z Z Z Z (λh0=>vq (lo:=s.i) (hi:=m) hT Z Z Z Z Z zo (mc _) (.inr rfl) h0) (WT.OH (x0:=(⟨0,0⟩:Lr)) (i:=s.i) (l:=m-s.i) hT 0 f Z Z Z Z Z Z Z Z Z zo zo Z (λ_=>rfl) (λB6 ae=>?_));refine WT.ay 0 Z Z (λF6 bi ax=>?_);have az:=ae.arr bi ax;obtain⟨sa,sc,bl,a0⟩:=az.slice (C:=CC) (lo:=0) (hi:=s.i) (BY _) zo hT (t:=259) Z Z Z none (some (.int .i64 (s.i:Nat))) rfl rfl;refine ai ?_;refine WT.slice Z Z Z Z Z Z Z Z bl (ai ?_);have e:(List.take s.i (List.take s.i s.ys++List.replicate (m-s.i) ⟨0,0⟩)).drop 0=s.ys.take s.i:=by{rw[TE,List.take_left' (by rw[R5];omega)]};rw[e] at a0;refine AW.ret ⟨_,[],⟨_,_,rfl,rfl,rfl⟩,bw,rfl,sa,_,sc,_,rfl,a0,by omega,J,λw=>?_⟩;rw[g,h4,pf zo]}};{have ad:x≠p:=by{rintro rfl;simp at h3};refine ai ?_;refine⟨i+1,by omega,sM,c7,by omega,by omega,?_⟩;rw[mK hx];refine List.pairwise_append.2 ⟨P,TQ _ _,λw hw w2 af=>?_⟩;obtain rfl:w2=x:=by{simpa using af};exact Fp hs hx hp zo ad hw}};{have h2:i=m:=by{simp at h2;omega};refine AW.exit (AW.ay 0 Z Z (λF2 ap bn=>?_));refine ai ?_;refine AW.ret ⟨_,[],⟨_,_,rfl,rfl,rfl⟩,bw,rfl,_,m,_,xs,rfl,I.arr ap bn,mc _,?_,λ_=>Iff.rfl⟩;rw[pf zo] at P;exact P}
def bj(g:aj)(x:Lr):Option Sym:=
 if x.aB=g.rules.length then (if x.dot=0 then some ⟨false,g.start⟩ else none) else match g.rules[x.aB]? with
  | some r=>r.right[x.dot]?
  | none=>none
theorem iJ(F:aw)(g:aj)(J:∀r∈g.rules,r.right.length<=100){a:Option Addr}{m c:Nat}(R:a7 cO F a m c g.rules)(hm:m<=1000000)(x:Lr)(hx:x.aB<=m) :
  Abs.Spec CC 150 [.agg ⟨ak g a m c⟩,.agg ⟨[.int .i64 x.aB,.int .i64 x.dot]⟩] F [] λ_ v o=>o=[]/\∃(y:Sym) (b:Bool),v=.tuple ⟨[.agg ⟨[.bool y.term,.int .i64 y.n]⟩,.bool b]⟩/\(b=true->bj g x=some y)/\(b=false->bj g x=none):=by have af:=R.len;unfold ak;refine Abs.Spec.fn (n:=37) Tryz.func150 rfl rfl λown=>?_;refine AW.seq (AW.fj ?_);refine WT.bZ Z Z Z Z Z Z (λi2 ag=>?_);refine WT.bZ Z Z Z Z Z Z (λi3 al=>?_);refine WT.aG hT Z Z Z Z Z Z (λi4 an=>?_);refine aq ?_;refine AW.cond Z (λh=>?_) (λh=>?_);{have h:x.aB=g.rules.length:=by{simp at h;omega};refine aq ?_;refine AW.draw (ps:=[(4,2),(4,6),(5,2),(5,6)]) Z Z (aq ?_);refine WT.aX Tryz.func84 Z Z Z Z Z Z (sD _ _) (λv hv=>?_);subst hv;refine aq ?_;refine⟨k9,?_⟩;refine AW.ret ⟨_,[],⟨_,_,⟨_,rfl,λG U l=>aR (l.has (p:=0) Z me) (bh hT rfl)⟩,⟨_,_,rfl,rfl,rfl⟩,rfl⟩,bw,rfl,⟨false,g.start⟩,_,rfl,λf=>?_,λf=>?_⟩;{unfold bj;rw[nw h,nw (by simpa using f)]};{unfold bj;rw[nw h,mb (by simpa using f)]}};{have h:x.aB<g.rules.length:=by{simp at h;omega};refine aq ?_;refine WT.bk hT R Z Z Z Z Z Z Z Z Z zo (λr t b5 aa ap ar av ax az i=>?_);obtain⟨ra,rn,rc,rfl,C⟩:=i;have ac:=C.len;have a0:=J r (gM t);have ha:bj g x=r.right[x.dot]?:=by{unfold bj;rw[mb zo,t]};refine aq ?_;refine AW.cond Z (λI=>?_) (λI=>?_);{have I:x.dot<rn:=by{simp at I;omega};refine aq ?_;refine WT.bk hT C Z Z Z Z Z Z Z Z Z zo (λy hy b6 ae a2 a3 P a4 a5 j=>?_);obtain rfl:P=_:=j;refine aq ?_;refine AW.ret ⟨_,[],⟨_,_,⟨_,rfl,λG U l=>aR (l.has (p:=0) Z me) (bh hT rfl)⟩,⟨_,_,rfl,rfl,rfl⟩,rfl⟩,bw,rfl,y,true,rfl,λ_=>?_,λf=>by cases f⟩;rw[ha,hy]};{have I:rn<=x.dot:=by{simp at I;omega};refine aq ?_;refine AW.ret ⟨_,[],⟨_,_,⟨_,rfl,λG U l=>aR (l.has (p:=0) Z me) (bh hT rfl)⟩,⟨_,_,rfl,rfl,rfl⟩,rfl⟩,bw,rfl,⟨false,0⟩,false,rfl,λf=>(by cases f),λ_=>?_⟩;rw[ha,To];omega}}
theorem Cn(F:aw)(g:aj)(t:∀r∈g.rules,r.right.length<=100){a:Option Addr}{m c:Nat}(I:a7 cO F a m c g.rules)(hm:m<=1000000)(x:Nat)(hx:x<=m) :
  Abs.Spec CC 144 [.agg ⟨ak g a m c⟩,.int .i64 x] F [] λ_ v o=>o=[]/\∃b n d,v=.slice b n d/\n=(if x=m then 1 else ((g.rules[x]?).map (·.right.length)).getD 0):=by have P:=I.len;unfold ak;refine Abs.Spec.fn (n:=32) Tryz.func144 rfl rfl λown=>?_;refine AW.seq (AW.fj ?_);refine WT.bZ Z Z Z Z Z Z (λi2 R=>?_);refine aq ?_;refine AW.block (aq ?_);refine AW.cond Z (λh=>?_) (λh=>?_);{have h:x=m:=by{simp at h;omega};refine aq ?_;refine WT.aX Tryz.func84 Z Z Z Z Z Z (sD _ _) (λv C=>?_);subst C;refine WT.aS hT Z Z Z Z Z Z Z Z Z Z Z Z Z Z (λi5 U=>?_);refine aq ?_;refine AW.ret ⟨_,[],⟨_,_,rfl,rfl,rfl⟩,bw,rfl,_,_,_,rfl,?_⟩;rw[nw h]};{have h:x<m:=by{simp at h;omega};refine aq ?_;refine AW.cond Z (λh=>(by simp at h;omega)) (λ_=>?_);refine aq ?_;refine WT.bk hT I Z Z Z Z Z Z Z Z Z zo (λr i b5 J aa ab ac ad ae f=>?_);obtain⟨ra,rn,rc,rfl,j⟩:=f;have l:=j.len;have af:=t r (gM i);refine aq ?_;refine WT.mA Tryz.func107 Z Z Z Z Z Z (qG _ j zo) (λF2 v B2 ag C=>?_);obtain⟨ca,cc,rfl,_⟩:=C;refine aq ?_;refine AW.ret ⟨_,[],⟨_,_,rfl,rfl,rfl⟩,bw,rfl,_,_,_,rfl,?_⟩;rw[mb zo,i];exact l}
inductive gV(g:aj)(l:List Lr):Lr->Prop
 | base {x:Lr}:x∈l->gV g l x
 | more {x:Lr} {n k:Nat} {r:cb}:gV g l x->bj g x=some ⟨false,n⟩->g.rules[k]?=some r->r.left=n->gV g l ⟨k,0⟩
structure oT(g:aj)(l xs:List Lr):Prop where
 ad:∃ad:List Nat,xs=l++ad.map (λk=>⟨k,0⟩)/\ad.Nodup/\∀k∈ad,k<g.rules.length
 xR:∀x∈xs,gV g l x
def KC(g:aj)(xs:List Lr)(x:Lr):Prop:=∀n k r,bj g x=some ⟨false,n⟩->g.rules[k]?=some r->r.left=n->(⟨k,0⟩:Lr)∈xs
theorem oT.FA{g:aj}{l xs:List Lr}(h:oT g l xs):xs.length<=l.length+g.rules.length:=by obtain⟨ad,rfl,f,hk⟩:=h.ad;have:=wY _ ad f hk;rw[q0,sh];omega
theorem oT.aB{g:aj}{l xs:List Lr}(h:oT g l xs)(f:∀x∈l,x.aB<=g.rules.length):∀x∈xs,x.aB<=g.rules.length:=by obtain⟨ad,rfl,o,hk⟩:=h.ad;intro x i;rcases AI.1 i with h1 | h1;{exact f x h1};{obtain⟨k,j,rfl⟩:=tx.1 h1;exact Sm (hk k j)}
theorem oT.add{g:aj}{l xs:List Lr}(h:oT g l xs){x:Lr}(j:x∈xs){n k:Nat}{r:cb}(o:bj g x=some ⟨false,n⟩)(i:g.rules[k]?=some r)(p:r.left=n)(f:(⟨k,0⟩:Lr)∉xs):oT g l (xs++[⟨k,0⟩]):=by obtain⟨ad,e,t,hk⟩:=h.ad;refine⟨⟨ad++[k],by rw[e];simp,?_,?_⟩,?_⟩;{rw[S1];refine⟨t,by simp,λa ha b C=>?_⟩;obtain rfl:b=k:=by{simpa using C};rintro rfl;exact f (by rw[e];exact R8 _ (tx.2 ⟨_,ha,rfl⟩))};{intro a ha;rcases AI.1 ha with ha | ha;{exact hk a ha};{obtain rfl:a=k:=by{simpa using ha};exact(gS i).1}};{intro y hy;rcases AI.1 hy with hy | hy;{exact h.xR y hy};{obtain rfl:y=⟨k,0⟩:=by{simpa using hy};exact .more (h.xR x j) o i p}}
theorem oT.full{g:aj}{l xs:List Lr}(h:oT g l xs)(f:∀x∈xs,KC g xs x)(x:Lr):x∈xs↔gV g l x:=by refine⟨h.xR x,λi=>?_⟩;induction i with| base j=>{obtain⟨ad,rfl,_⟩:=h.ad;exact IT _ j}| more _ o p r t=>{exact f _ t _ _ _ o p r}
theorem KC.more{g:aj}{xs:List Lr}{x y:Lr}(h:KC g xs x):KC g (xs++[y]) x:=λn k r f i j=>IT _ (h n k r f i j)
structure QX where
 i:Nat
 xs:List Lr
 a:Option Addr
 c:Nat
 B:List (Nat×aC)
theorem nf(F:aw)(g:aj)(b0:∀r∈g.rules,r.right.length<=100){a:Option Addr}{m c:Nat}(hr:a7 cO F a m c g.rules)(hm:m<=100){b:Option Addr}{n d:Nat}{l:List Lr}(hl:a7 gg F b n d l)(hn:n<=1000)(b1:∀x∈l,x.aB<=g.rules.length) :
  Abs.Spec CC 152 [.agg ⟨ak g a m c⟩,.slice b n d] F [] λF' v o=>o=[]/\∃a' m' c' zs,v=.slice a' m' c'/\a7 gg F' a' m' c' zs/\m'<=n+m/\gp zs/\∀z,z∈zs↔gV g l z:=by have df:=hr.len;have bc:=hl.len;unfold ak;refine Abs.Spec.fn (n:=65) Tryz.func152 rfl rfl λown=>?_;refine AW.seq (AW.fj ?_);refine WT.bZ Z Z Z Z Z Z (λi2 dl=>?_);refine ai ?_;refine WT.mA Tryz.func193 Z Z Z Z Z Z (Cr _ hl zo) (λF1 v B1 b3 hv=>?_);obtain⟨ca,cc,rfl,hv⟩:=hv;have b4:=hr.mono b3;rw[bc] at hv;rw[bc];refine ai ?_;refine AW.block (AW.cr (S:=QX) (λs=>[(6,.int .i64 (s.i:Nat)),(5,.slice s.a s.xs.length s.c)]) (λs=>s.B::[(i2,.cells false [.int .i64 g.ae,.int .i64 g.az,.int .i64 g.start,.slice a m c])]::own) (λs G=>er gg G s.a s.xs.length s.c s.B s.xs/\oT g l s.xs/\s.i<=s.xs.length/\∀x∈s.xs.take s.i,KC g s.xs x) (λs=>n+m-s.i) ⟨0,l,ca,cc,B1⟩ sM oR ⟨hv,⟨⟨[],by simp,Tu,by simp⟩,λx hx=>.base hx⟩,BY _,by simp⟩ ?_);intro s F2 b6 hP;obtain⟨C,U,d0,P⟩:=hP;have be:=b4.mono b6;have c0:=U.FA;have a1:=U.aB b1;refine ai ?_;refine AW.cond Z (λh=>?_) (λh=>?_);{have h:s.i<s.xs.length:=by{simpa using h};obtain⟨x,hx⟩:∃x,s.xs[s.i]?=some x:=⟨_,gE h⟩;have b7:=gM hx;have d1:=a1 x b7;refine ai ?_;refine AW.block (ai ?_);refine AW.draw (ps:=[(0,9),(4,9)]) Z Z (ai ?_);refine WT.bJ hT C Z Z Z Z Z Z Z Z Z h (λb5 bf=>?_);refine WT.cQ hT 0 C bf hx Z Z Z Z Z Z Z Z Z (λl hl=>?_);obtain rfl:l=_:=hl;refine WT.aX Tryz.func150 Z Z Z Z Z Z (iJ _ g b0 be zo x zo) (λv hv=>?_);obtain⟨y,bo,rfl,ap,a2⟩:=hv;refine ai ?_;refine WT.aG hT Z Z Z Z Z Z (λi7 d4=>?_);refine ai ?_;obtain⟨jb,b9,bi,cf,_,_⟩:=C.at_ hx;have d5:(b5,aC.cells false b9)∈s.B:=by{rw[cf];rw[bf] at bi;cases bi;exact R2 ..};refine⟨Ob,?_⟩;refine ai ?_;have ad:∀f,s.xs.length<=f.length->f.take s.i=s.xs.take s.i->f[s.i]?=some x->(∀z∈s.xs.take s.i,KC g f z)->KC g f x->∀z∈f.take (s.i+1),KC g f z:=λf _ e1 e2 I h2 z hz=>by{rw[yf,e1,e2] at hz;rcases AI.1 hz with hz | hz;{exact I z hz};{obtain rfl:z=x:=by{simpa using hz};exact h2}};have af:KC g s.xs x->∀z∈s.xs.take (s.i+1),KC g s.xs z:=λh=>ad s.xs (mc _) rfl hx P h;cases bo;{have a2:=a2 rfl;refine ai ?_;refine AW.cond Z (λ_=>?_) (λh=>(by cases h));refine AW.exit (ai ?_);exact⟨⟨s.i+1,s.xs,s.a,s.c,s.B⟩,by dsimp only;omega,sM,c7,C,U,h,af (λn k r I _ _=>by rw[a2] at I;cases I)⟩};have ap:=ap rfl;refine ai ?_;refine AW.cond Z (λt=>?_) (λt=>?_);{have t:y.term=true:=by{simpa using t};refine AW.exit (ai ?_);exact⟨⟨s.i+1,s.xs,s.a,s.c,s.B⟩,by dsimp only;omega,sM,c7,C,U,h,af (λn k r I _ _=>by rw[ap] at I;injection I with I;rw[I] at t;cases t)⟩};have t:y.term=false:=by{simpa using t};have ax:bj g x=some ⟨false,y.n⟩:=by{rw[ap,<-t]};refine ai ?_;refine AW.range (S:=QX) (λu=>[(5,.slice u.a u.xs.length u.c)]) (λu=>[(i7,.cells false [.bool y.term,.int .i64 y.n])]::u.B::[(i2,.cells false [.int .i64 g.ae,.int .i64 g.az,.int .i64 g.start,.slice a m c])]::own) (λk u G=>er gg G u.a u.xs.length u.c u.B u.xs/\oT g l u.xs/\s.xs.length<=u.xs.length/\u.xs.take s.i=s.xs.take s.i/\u.xs[s.i]?=some x/\(∀z∈s.xs.take s.i,KC g u.xs z)/\∀k' r,k'<k->g.rules[k']?=some r->r.left=y.n->(⟨k',0⟩:Lr)∈u.xs) m ⟨0,s.xs,s.a,s.c,s.B⟩ Z Z Z Z Z Z Z Z Z zo rfl rfl (λ_=>rfl) (λ_=>rfl) sM oR ⟨C,U,mc _,rfl,hx,P,λk' r h=>absurd h (SJ _)⟩ ?_ ?_;{intro j u F3 bl hj hP;obtain⟨aa,J,ar,ag,ab,al,an⟩:=hP;have cg:=be.mono bl;have a4:=J.FA;have ao:=gM ab;refine ai ?_;refine WT.bk hT cg Z Z Z Z Z Z Z Z Z zo (λr bn b8 c1 d9 ea eb ec ee a5=>?_);obtain⟨ra,rn,rc,rfl,eh⟩:=a5;refine ai ?_;refine WT.aG hT Z Z Z Z Z Z (λi10 c2=>?_);refine ai ?_;refine WT.aG hT Z Z Z Z Z Z (λi11 c4=>?_);refine ai ?_;refine WT.split 50 Z (λh4=>?_) (λh4=>?_);{have h4:r.left=y.n:=by{simp at h4;omega};refine ai ?_;refine WT.jC 3 Tryz.func194 Z Z Z Z Z Z Z (λG hG ch=>wA G (aa.arr hG ch) zo ⟨j,0⟩) (λv hv=>?_);subst hv;refine ai ?_;refine AW.cond Z (λh5=>?_) (λh5=>?_);{have h5:(⟨j,0⟩:Lr)∉u.xs:=by{simpa using h5};refine ai ?_;have ck:=aa.Rg (λe=>by rw[e] at ao;cases ao);refine WT.aS hT Z Z Z Z Z Z Z Z Z Z Z Z Z Z (λi12 c5=>?_);refine WT.bu (ys:=[(⟨j,0⟩:Lr)]) hT 4 ck Z (λ_=>rfl) Z Z Z Z Z Z Z Z Z Z Z (λh0 s0=>aT hT s0 0 Z Z Z Z) (aF.single (R:=gg) (x:=(⟨j,0⟩:Lr)) rfl) Z (by decide) gT (λa3 c3 B3 br=>?_);have cn:u.xs.length+1=(u.xs++[(⟨j,0⟩:Lr)]).length:=by{simp};rw[cn] at br |-;refine ai ?_;have bs:s.i<u.xs.length:=by{omega};refine⟨⟨0,u.xs++[⟨j,0⟩],a3,c3,B3⟩,sM,c7,br.vec,J.add ao ax bn h4 h5,by simp;omega,?_,?_,λz hz=>(al z hz).more,λk' r' I h2 t=>?_⟩;{show (u.xs++[_]).take s.i=_;rw[Ta zo,ag]};{show (u.xs++[_])[s.i]?=_;rw[By bs,ab]};{rcases AT k' j with h6 | h6;{exact IT _ (an k' r' h6 h2 t)};{obtain rfl:k'=j:=by{omega};exact R8 _ me}}};{have h5:(⟨j,0⟩:Lr)∈u.xs:=by{simpa using h5};(refine ai ?_;refine⟨u,sM,c7,aa,J,ar,ag,ab,al,λk' r' I h2 t=>?_⟩;rcases AT k' j with h6 | h6);{exact an k' r' h6 h2 t};{obtain rfl:k'=j:=by{omega};exact h5}}};{have h4:r.left≠y.n:=by{simp at h4;omega};(refine ai ?_;refine AW.cond Z (λh=>(by cases h)) (λ_=>?_);refine ai ?_;refine⟨u,sM,c7,aa,J,ar,ag,ab,al,λk' r' I h2 t=>?_⟩;rcases AT k' j with h6 | h6);{exact an k' r' h6 h2 t};{obtain rfl:k'=j:=by{omega};rw[bn] at h2;cases h2;exact absurd t h4}}};{intro u F3 bl hP;obtain⟨aa,J,ar,ag,ab,al,an⟩:=hP;have a4:=J.FA;refine ai ?_;refine⟨⟨s.i+1,u.xs,u.a,u.c,u.B⟩,by dsimp only;omega,sM,c7,aa,J,by dsimp only;omega,ad u.xs ar ag ab al (λn k r I h2 t=>?_)⟩;rw[ax] at I;cases I;have:=(gS h2).1;exact an k r zo h2 t}};{have h:s.i=s.xs.length:=by{simp at h;omega};rw[h,SS] at P;have bb:=U.full P;refine AW.exit (ai ?_);obtain⟨hp,hs⟩:=xN Lx s.xs;have et:=hp.length_eq;refine WT.cC 0 Tryz.func195 Z Z Z Z Z Z Z (λ_=>rfl) (Dk _ (EG _) C zo) (λF7 v B7 ey co=>?_);refine ai ?_;refine WT.KM (oin:=[B7]) Tryz.func197 Z Z Z Z Z Z (x6 F7 co zo hs) (ri _) (λF8 v c9 e0 cp=>?_);obtain⟨rfl,a8,m8,c8,zs,rfl,hz,e6,cs,bv⟩:=cp;refine ai ?_;refine AW.ret ⟨_,[],⟨_,_,rfl,rfl,rfl⟩,bw,rfl,a8,m8,c8,zs,rfl,hz,by omega,cs,λz=>?_⟩;rw[bv,hp.mem_iff,bb]}
end Go.Proofs.D