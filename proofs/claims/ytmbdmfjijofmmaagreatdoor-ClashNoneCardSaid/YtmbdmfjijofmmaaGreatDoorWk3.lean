/-
  Walks: what functions of the program do, over the abstract machine.
-/
import Derived.Test.YtmbdmfjijofmmaaGreatDoorWk2
set_option linter.unusedVariables false
set_option maxRecDepth 20000
set_option maxHeartbeats 0
open Go Go.Abs Go.Proofs Go.Proofs.D
namespace Go.Proofs.D
inductive Mg(g:aj):Nat->Prop
 | mk {r:cb}:r∈g.rules->(∀s∈r.right,s.term=false)->(∀s∈r.right,Mg g s.n)->Mg g r.left
def gu(g:aj)(l:List Sym):Prop:=∀s∈l,s.term=false/\Mg g s.n
inductive Hu(g:aj):Nat->Nat->Prop
 | term {r:cb} {pre post:List Sym} {t:Nat}:r∈g.rules->r.right=pre++⟨true,t⟩::post->gu g pre->Hu g r.left t
 | Js {r:cb} {pre post:List Sym} {m t:Nat}:r∈g.rules->r.right=pre++⟨false,m⟩::post->gu g pre->Hu g m t->Hu g r.left t
def dE(g:aj)(l:List Sym)(t:Nat):Prop:=∃pre s post,l=pre++s::post/\gu g pre/\(s=⟨true,t⟩\/(s.term=false/\Hu g s.n t))
theorem Mg.of{g:aj}{r:cb}(h:r∈g.rules)(f:gu g r.right):Mg g r.left:=.mk h (λs hs=>(f s hs).1) (λs hs=>(f s hs).2)
theorem Hu.of{g:aj}{r:cb}{t:Nat}(h:r∈g.rules)(j:dE g r.right t):Hu g r.left t:=by obtain⟨pre,s,post,e,i,f⟩:=j;rcases f with rfl | ⟨f,l⟩;{exact .term h e i};{obtain⟨b,n⟩:=s;obtain rfl:b=false:=f;exact .Js h e i l}
theorem gu.nil{g:aj}:gu g []:=λ_ h=>by cases h
theorem gu.cons{g:aj}{s:Sym}{l:List Sym}(f:s.term=false)(i:Mg g s.n)(h:gu g l):gu g (s::l):=λx hx=>by rcases IN.1 hx with rfl | hx;{exact⟨f,i⟩};{exact h x hx}
theorem dE.head{g:aj}{s:Sym}{l:List Sym}{t:Nat}(h:s=⟨true,t⟩\/(s.term=false/\Hu g s.n t)):dE g (s::l) t:=⟨[],s,l,rfl,gu.nil,h⟩
theorem dE.cons{g:aj}{s:Sym}{l:List Sym}{t:Nat}(f:s.term=false)(i:Mg g s.n)(h:dE g l t):dE g (s::l) t:=by obtain⟨pre,x,post,e,j,o⟩:=h;exact⟨s::pre,x,post,by rw[e];rfl,gu.cons f i j,o⟩
mutual
theorem aN.begin{g:aj}{w:List Nat}:∀{t:Tree} {s:Sym} {i j:Nat},aN g w s t i j->(i=j->s.term=false/\Mg g s.n)/\(i<j->∃c,w[i]?=some c/\(s=⟨true,c⟩\/(s.term=false/\Hu g s.n c)))
 | .mk _ _ _,_,i,_,.leaf h=>⟨λe=>by omega,λ_=>⟨_,h,.inl rfl⟩⟩
 | .mk _ _ ks,_,i,j,.node h f=>by{have hm:=gM h;obtain⟨l,o⟩:=aE.begin f;refine⟨λe=>⟨rfl,.of hm (l e)⟩,λe=>?_⟩;obtain⟨c,p,r⟩:=o e;exact⟨c,p,.inr ⟨rfl,.of hm r⟩⟩}
theorem aE.begin{g:aj}{w:List Nat}:∀{ts:List Tree} {l:List Sym} {i j:Nat},aE g w l ts i j->(i=j->gu g l)/\(i<j->∃c,w[i]?=some c/\dE g l c)
 | [],_,i,_,.nil=>⟨λ_=>gu.nil,λe=>by omega⟩
 | t::ts,_,i,j,.cons (m:=m) I J=>by{have P:=(aN.le I).1;have R:=(aE.le J).1;obtain⟨U,a2⟩:=aN.begin I;obtain⟨b1,b2⟩:=aE.begin J;refine⟨λe=>?_,λe=>?_⟩;{obtain⟨f,o⟩:=U zo;exact gu.cons f o (b1 zo)};{by_cases hm:i<m;{obtain⟨c,r,C⟩:=a2 hm;exact⟨c,r,dE.head C⟩};{obtain rfl:i=m:=by{omega};obtain⟨f,o⟩:=U rfl;obtain⟨c,r,C⟩:=b2 e;exact⟨c,r,dE.cons f o C⟩}}}
end
def bF(g:aj)(k:Nat):List Sym:=if k=g.rules.length then [⟨false,g.start⟩] else ((g.rules[k]?).map (·.right)).getD []
theorem dV{g:aj}{k:Nat}{r:cb}(h:g.rules[k]?=some r):bF g k=r.right:=by unfold bF;rw[mb (by have:=(gS h).1;omega),h];rfl
theorem fD{g:aj}:bF g g.rules.length=[⟨false,g.start⟩]:=nw rfl
theorem cq{g:aj}{x:Lr}:bj g x=(bF g x.aB)[x.dot]?:=by unfold bj bF;split;{cases f:x.dot with|zero=>rfl|succ d=>{rfl}};{cases h:g.rules[x.aB]? with|none=>rfl|some r=>{rfl}}
def cD(g:aj)(x:Lr):List Sym:=(bF g x.aB).drop (x.dot+1)
structure tz(g:aj)(it:Nat->Lr->Prop)(la:Nat->Lr->Nat->Prop)(go:Nat->Sym->Option Nat):Prop where
 start:it 0 ⟨g.rules.length,0⟩
 Cu:la 0 ⟨g.rules.length,0⟩ g.ae
 xR:∀{s:Nat} {x:Lr} {k:Nat} {r:cb},it s x->bj g x=some ⟨false,r.left⟩->g.rules[k]?=some r->it s ⟨k,0⟩
 eT:∀{s:Nat} {x:Lr} {k:Nat} {r:cb} {t u:Nat},it s x->la s x u->bj g x=some ⟨false,r.left⟩->g.rules[k]?=some r->(dE g (cD g x) t\/(gu g (cD g x)/\la s x t))->la s ⟨k,0⟩ t
 step:∀{s:Nat} {x:Lr} {y:Sym},it s x->bj g x=some y->∃s',go s y=some s'/\it s' ⟨x.aB,x.dot+1⟩/\∀t,la s x t->la s' ⟨x.aB,x.dot+1⟩ t
 back:∀{s s':Nat} {y:Sym} {k d:Nat},go s y=some s'->it s' ⟨k,d+1⟩->it s ⟨k,d⟩/\bj g ⟨k,d⟩=some y
 fill:∀{s:Nat} {k:Nat} {r:cb},it s ⟨k,0⟩->g.rules[k]?=some r->∃s',go s ⟨false,r.left⟩=some s'
 first:∀{s:Nat},it s ⟨g.rules.length,0⟩->s=0
 zero:∀{s:Nat} {y:Sym},go s y≠some 0
 QS:∀{x:Lr},it 0 x->x.dot=0
inductive Act where
 | no
 | shift (s:Nat)
 | red (k:Nat)
 | acc
deriving DecidableEq
inductive yO(g:aj)(it:Nat->Lr->Prop)(la:Nat->Lr->Nat->Prop)(go:Nat->Sym->Option Nat)(s t:Nat):Act->Prop
 | shift {s':Nat}:t<g.ae->go s ⟨true,t⟩=some s'->yO g it la go s t (.shift s')
 | red {k:Nat} {r:cb}:g.rules[k]?=some r->it s ⟨k,r.right.length⟩->la s ⟨k,r.right.length⟩ t->yO g it la go s t (.red k)
 | acc:it s ⟨g.rules.length,1⟩->la s ⟨g.rules.length,1⟩ t->yO g it la go s t .acc
structure CT(g:aj)(it:Nat->Lr->Prop)(la:Nat->Lr->Nat->Prop)(go:Nat->Sym->Option Nat)(act:Nat->Nat->Act):Prop where
 all:∀{s t:Nat} {a:Act},yO g it la go s t a->act s t=a
 one:∀{s t:Nat},act s t≠.no->yO g it la go s t (act s t)
abbrev qe:=List Nat×List Tree
def ix(σ:List Nat):Nat:=σ.getLast?.getD 0
def Eg(g:aj)(go:Nat->Sym->Option Nat)(act:Nat->Nat->Act)(t:Nat)(c:qe):qe:=match act (ix c.1) t with
 | .red k=>match g.rules[k]? with
  | some r=>(c.1.take (c.1.length-r.right.length)++[(go (ix (c.1.take (c.1.length-r.right.length))) ⟨false,r.left⟩).getD 0],
    c.2.take (c.2.length-r.right.length)++[.mk k 0 (c.2.drop (c.2.length-r.right.length))])
  | none=>c
 | _=>c
def qd(g:aj)(go:Nat->Sym->Option Nat)(act:Nat->Nat->Act)(t:Nat):Nat->qe->qe
 | 0,c=>c
 | n+1,c=>qd g go act t n (Eg g go act t c)
def lookW(g:aj)(w:List Nat)(i:Nat):Nat:=(w[i]?).getD g.ae
inductive LH(g:aj)(go:Nat->Sym->Option Nat)(w:List Nat):List Nat->List Tree->Nat->Prop
 | nil:LH g go w [0] [] 0
 | snoc {σ:List Nat} {τ:List Tree} {i j s s':Nat} {y:Sym} {T:Tree}:LH g go w (σ++[s]) τ i->go s y=some s'->aN g w y T i j->LH g go w (σ++[s]++[s']) (τ++[T]) j
theorem pR(σ:List Nat)(s:Nat):ix (σ++[s])=s:=by unfold ix;rw[List.getLast?_append];rfl
theorem LH.len{g:aj}{go:Nat->Sym->Option Nat}{w:List Nat}{σ:List Nat}{τ:List Tree}{i:Nat}(h:LH g go w σ τ i):σ.length=τ.length+1/\i<=w.length:=by induction h with|nil=>{exact⟨rfl,BY _⟩}| snoc l o j f=>{exact⟨by simp only[q0,SF] at f |-;omega,(aN.le j).2 f.2⟩}
section
variable {g:aj}{it:Nat->Lr->Prop}{la:Nat->Lr->Nat->Prop}{go:Nat->Sym->Option Nat}{act:Nat->Nat->Act}{w:List Nat}
inductive E5(g:aj)(go:Nat->Sym->Option Nat)(act:Nat->Nat->Act)(w:List Nat)(a:qe×Nat):Nat->qe×Nat->Prop
 | refl:E5 g go act w a 0 a
 | red {n:Nat} {c:qe} {i k:Nat}:E5 g go act w a n (c,i)->act (ix c.1) (lookW g w i)=.red k->E5 g go act w a (n+1) (Eg g go act (lookW g w i) c,i)
 | shift {n:Nat} {c:qe} {i t s':Nat}:E5 g go act w a n (c,i)->w[i]?=some t->act (ix c.1) t=.shift s'->E5 g go act w a n ((c.1++[s'],c.2++[.mk (-1) t []]),i+1)
theorem E5.trans{a b c:qe×Nat}{n m:Nat}(j:E5 g go act w a n b)(l:E5 g go act w b m c):E5 g go act w a (n+m) c:=by induction l with| refl=>exact j| red o f i=>exact .red i f| shift o f p i=>{exact .shift i f p}
def pQ(g:aj)(la:Nat->Lr->Nat->Prop)(s:Nat)(x:Lr)(t:Nat):Prop:=dE g (cD g x) t\/(gu g (cD g x)/\la s x t)
theorem sx{i t:Nat}(h:w[i]?=some t):lookW g w i=t:=by unfold lookW;rw[h];rfl
mutual
theorem aN.run(ok:tz g it la go)(on:CT g it la go act)(hw:∀t∈w,t<g.ae):∀{T:Tree} {X:Sym} {i j:Nat},aN g w X T i j->∀{σ:List Nat} {τ:List Tree} {x:Lr},it (ix σ) x->(∃u,la (ix σ) x u)->bj g x=some X->pQ g la (ix σ) x (lookW g w j)->
  ∃o n,go (ix σ) X=some o/\n<=T.pre.length/\E5 g go act w ((σ,τ),i) n ((σ++[o],τ++[T]),j)
 | .mk _ t _,_,i,_,.leaf h,σ,τ,x,C,_,I,_=>by{obtain⟨o,h1,J,P⟩:=ok.step C I;have f:=on.all (.shift (hw t (gM h)) h1);exact⟨o,0,h1,BY _,.shift (c:=(σ,τ)) .refl h f⟩}
 | .mk _ _ ks,_,i,j,.node (k:=k) (r:=r) h J,σ,τ,x,C,⟨u,hu⟩,I,R=>by{obtain⟨o,P,_,_⟩:=ok.step C I;have U:=ok.xR C I h;have aa:=ok.eT (t:=lookW g w j) C hu I h R;obtain⟨p,n,e1,e2,e3,e4,e5⟩:=aE.run ok on hw J (σ:=σ) (τ:=τ) (k:=k) (d:=0) (r:=r) h U aa (BY _) rfl;have f:=on.all (.red h e2 e3);refine⟨o,n+1,P,?_,?_⟩;{show n+1<=((k:Int)::bT ks).length;rw[If];omega};{have l:=E5.red e5 f;have ab:p.length=r.right.length:=by{rw[e1,aE.len J]};have e:Eg g go act (lookW g w j) (σ++p,τ++ks)=(σ++[o],τ++[.mk k 0 ks]):=by{unfold Eg;dsimp only;rw[f];dsimp only;rw[h];dsimp only;have e7:(σ++p).length-r.right.length=σ.length:=by{rw[q0,ab];omega};have e8:(τ++ks).length-r.right.length=τ.length:=by{rw[q0,aE.len J];omega};rw[e7,e8,List.take_left,List.take_left,List.drop_left,P];rfl};rw[e] at l;exact l}}
theorem aE.run(ok:tz g it la go)(on:CT g it la go act)(hw:∀t∈w,t<g.ae):∀{ts:List Tree} {l:List Sym} {i j:Nat},aE g w l ts i j->∀{σ:List Nat} {τ:List Tree} {k d:Nat} {r:cb},g.rules[k]?=some r->it (ix σ) ⟨k,d⟩->la (ix σ) ⟨k,d⟩ (lookW g w j)->d<=r.right.length->r.right.drop d=l->
  ∃f n,f.length=ts.length/\it (ix (σ++f)) ⟨k,r.right.length⟩/\la (ix (σ++f)) ⟨k,r.right.length⟩ (lookW g w j)/\n<=(bT ts).length/\E5 g go act w ((σ,τ),i) n ((σ++f,τ++ts),j)
 | [],_,i,_,.nil,σ,τ,k,d,r,hk,p,o,ab,U=>by{obtain rfl:d=r.right.length:=by{have:=List.drop_eq_nil_iff.1 U;omega};refine⟨[],0,rfl,?_,?_,BY _,?_⟩;{rw[R3];exact p};{rw[R3];exact o};{rw[R3,R3];exact .refl}}
 | T::ts,s::l,i,j,.cons (m:=m) h1 h2,σ,τ,k,d,r,hk,p,o,ab,U=>by{have I:r.right[d]?=some s:=by{rw[<-List.head?_drop,U];rfl};have J:r.right.drop (d+1)=l:=by{rw[<-List.tail_drop,U];rfl};have P:=(gS I).1;have R:bj g ⟨k,d⟩=some s:=by{rw[cq];show (bF g k)[d]?=_;rw[dV hk];exact I};have C:cD g ⟨k,d⟩=l:=by{unfold cD;show (bF g k).drop (d+1)=_;rw[dV hk];exact J};obtain⟨b1,b2⟩:=aE.begin h2;have hle:=(aE.le h2).1;have ad:pQ g la (ix σ) ⟨k,d⟩ (lookW g w m):=by{unfold pQ;rw[C];by_cases hm:m<j;{obtain⟨c,hc,h5⟩:=b2 hm;rw[sx hc];exact .inl h5};{obtain rfl:m=j:=by{omega};exact .inr ⟨b1 rfl,o⟩}};obtain⟨s',n1,e1,e2,e3⟩:=aN.run ok on hw h1 p ⟨_,o⟩ R ad;obtain⟨s2,f1,f2,f3⟩:=ok.step p R;rw[e1] at f1;obtain rfl:=mm f1;obtain⟨f,n2,g1,g2,g3,g4,g5⟩:=aE.run ok on hw h2 (σ:=σ++[s']) (τ:=τ++[T]) (k:=k) (d:=d+1) (r:=r) hk (by rw[pR];exact f2) (by rw[pR];exact f3 _ o) P J;have e:∀x:List Nat,σ++[s']++x=σ++(s'::x):=λx=>by{simp};have e':∀x:List Tree,τ++[T]++x=τ++(T::x):=λx=>by{simp};rw[e] at g2 g3 g5;rw[e'] at g5;refine⟨s'::f,n1+n2,by rw[If,g1];rfl,g2,g3,?_,e3.trans g5⟩;show _<=(T.pre++bT ts).length;rw[q0];omega}
end
def Da(g:aj)(go:Nat->Sym->Option Nat)(act:Nat->Nat->Act)(M:Nat):List Nat->Option qe
 | []=>some ([0],[])
 | t::v=>match Da g go act M v with
  | none=>none
  | some c=>match act (ix (qd g go act t M c).1) t with
   | .shift f=>some ((qd g go act t M c).1++[f],(qd g go act t M c).2++[.mk (-1) t []])
   | _=>none
theorem xy(t:Nat):∀(n m:Nat) (c:qe),qd g go act t (n+m) c=qd g go act t m (qd g go act t n c)
 | 0,m,c=>by rw[yo];rfl
 | n+1,m,c=>by rw[Nat.succ_add];exact xy t n m _
theorem JV{t:Nat}{c:qe}(h:∀k,act (ix c.1) t≠.red k):Eg g go act t c=c:=by unfold Eg;split;{rename_i k hk;exact absurd hk (h k)};{rfl}
theorem As{t:Nat}{c:qe}(h:∀k,act (ix c.1) t≠.red k):∀n,qd g go act t n c=c
 | 0=>rfl
 | n+1=>by show qd g go act t n (Eg g go act t c)=c;rw[JV h];exact As h n
theorem Fl{t m M:Nat}{c d:qe}(h:qd g go act t m c=d)(hm:m<=M)(f:∀k,act (ix d.1) t≠.red k):qd g go act t M c=d:=by obtain⟨n,rfl⟩:=Nat.exists_eq_add_of_le hm;rw[xy,h,As f]
theorem Ir(t:Nat):∀(n:Nat) (c:qe),qd g go act t (n+1) c=Eg g go act t (qd g go act t n c):=λn c=>by rw[xy];rfl
theorem Ae{w:List Nat}{i t:Nat}(h:w[i]?=some t):(w.take (i+1)).reverse=t::(w.take i).reverse:=by rw[yf,h,TR];rfl
theorem E5.wk{M n:Nat}{x:qe×Nat}(h:E5 g go act w (([0],[]),0) n x)(C:n<=M):∃f m,Da g go act M (w.take x.2).reverse=some f/\m<=n/\qd g go act (lookW g w x.2) m f=x.1:=by induction h with| refl=>{exact⟨_,0,rfl,mc _,rfl⟩}| red I l o=>{obtain⟨f,m,j,r,i⟩:=o zo;exact⟨f,m+1,j,by omega,by rw[Ir,i]⟩}| shift I l t o=>{obtain⟨f,m,j,r,i⟩:=o C;refine⟨_,0,?_,BY _,rfl⟩;dsimp only at j r i |-;rw[Ae l];unfold Da;rw[j];dsimp only;rw[sx l] at i;rw[Fl i zo (λk e=>by rw[t] at e;cases e),t]}
theorem IM(ok:tz g it la go)(on:CT g it la go act)(hw:∀t∈w,t<g.ae){T:Tree}(h:aN g w ⟨false,g.start⟩ T 0 w.length):∃i n,n<=T.pre.length/\E5 g go act w (([0],[]),0) n (([0,i],[T]),w.length)/\act i g.ae=.acc:=by have j:bj g ⟨g.rules.length,0⟩=some ⟨false,g.start⟩:=by{rw[cq];show (bF g g.rules.length)[0]?=_;rw[fD];rfl};have o:cD g ⟨g.rules.length,0⟩=[]:=by{unfold cD;show (bF g g.rules.length).drop 1=_;rw[fD];rfl};have f:lookW g w w.length=g.ae:=by{unfold lookW;rw[D2 (mc _)];rfl};obtain⟨i,n,l,p,r⟩:=aN.run ok on hw h (σ:=[0]) (τ:=[]) (x:=⟨g.rules.length,0⟩) ok.start ⟨_,ok.Cu⟩ j (by{unfold pQ;rw[o,f];exact .inr ⟨gu.nil,ok.Cu⟩});obtain⟨s2,f1,f2,f3⟩:=ok.step ok.start j;rw[show ix [0]=0 from rfl,f1] at l;obtain rfl:=mm l;exact⟨_,n,p,r,on.all (.acc f2 (f3 _ ok.Cu))⟩
theorem IE:lookW g w w.length=g.ae:=by unfold lookW;rw[D2 (mc _)];rfl
theorem vK(ok:tz g it la go)(on:CT g it la go act)(hw:∀t∈w,t<g.ae){T:Tree}(h:aN g w ⟨false,g.start⟩ T 0 w.length){M:Nat}(o:T.pre.length<=M) :
  ∃c,Da g go act M w.reverse=some c/\(qd g go act g.ae M c).2=[T]/\act (ix (qd g go act g.ae M c).1) g.ae=.acc:=by obtain⟨f,n,r,j,i⟩:=IM ok on hw h;obtain⟨l,m,f1,f2,f3⟩:=j.wk (M:=M) zo;dsimp only at f1 f3;rw[SS] at f1;rw[IE] at f3;have hs:ix [0,f]=f:=rfl;have:=Fl (M:=M) f3 zo (λk e=>by rw[show ix ([0,f],[T]).1=f from rfl,i] at e;cases e);exact⟨l,f1,by rw[this],by rw[this];exact i⟩
theorem Ow(ok:tz g it la go)(on:CT g it la go act)(hw:∀t∈w,t<g.ae){T f:Tree}(h:aN g w ⟨false,g.start⟩ T 0 w.length)(i:aN g w ⟨false,g.start⟩ f 0 w.length):T=f:=by obtain⟨c,j,l,_⟩:=vK ok on hw h (M:=T.pre.length+f.pre.length) zo;obtain⟨o,f1,f2,_⟩:=vK ok on hw i (M:=T.pre.length+f.pre.length) zo;rw[j] at f1;obtain rfl:=mm f1;rw[l] at f2;exact SG f2
end
theorem gp.Gx{l:List Lr}(h:gp l):l.Nodup:=
 List.Pairwise.imp (λ{a b} f e=>by subst e;rw[kD] at f;omega) h
theorem Fz{i j:List Lr}(f:gp i)(g:gp j)(h:∀z,z∈i↔z∈j):i=j:=
 List.Perm.eq_of_pairwise (le:=λx y=>qR x y=true) (λa b _ _ f g=>by rw[kD] at f g;omega) f g ((List.perm_ext_iff_of_nodup f.Gx g.Gx).2 h)
def vG(g:aj):List Lr:=((List.range (g.rules.length+1)).map λk=>(List.range ((bF g k).length+1)).map λd=>(⟨k,d⟩:Lr)).flatten
theorem AM{g:aj}{z:Lr}:z∈vG g↔z.aB<=g.rules.length/\z.dot<=(bF g z.aB).length:=by unfold vG;rw[T5];constructor;{rintro⟨l,f,i⟩;obtain⟨k,hk,rfl⟩:=tx.1 f;obtain⟨d,j,rfl⟩:=tx.1 i;rw[Sr] at hk j;exact⟨by dsimp only;omega,by dsimp only;omega⟩};{rintro⟨o,r⟩;exact⟨_,tx.2 ⟨z.aB,Sr.2 zo,rfl⟩,tx.2 ⟨z.dot,Sr.2 zo,rfl⟩⟩}
theorem oK{α:Type}{R:α->α->Prop}{f:Nat->α}:∀{n:Nat},(∀i j,i<j->j<n->R (f i) (f j))->((List.range n).map f).Pairwise R:=by intro n h;rw[TO];refine List.Pairwise.imp_of_mem ?_ (UO);intro a b o l g;exact h a b g (Sr.1 l)
theorem CG(g:aj):gp (vG g):=by unfold vG gp;rw[List.pairwise_flatten];refine⟨λl f=>?_,?_⟩;{obtain⟨k,_,rfl⟩:=tx.1 f;exact oK λi j h _=>kD.2 (.inr ⟨rfl,h⟩)};{refine oK λi j h _ x o y p=>?_;obtain⟨_,_,rfl⟩:=tx.1 o;obtain⟨_,_,rfl⟩:=tx.1 p;exact kD.2 (.inl h)}
noncomputable def eT(g:aj)(l:List Lr):List Lr:=(vG g).filter λz=>@decide (gV g l z) (Classical.propDecidable _)
theorem iW(g:aj)(l:List Lr):gp (eT g l):=List.Pairwise.filter _ (CG g)
def gf(g:aj)(x:Lr):Prop:=x.aB<=g.rules.length/\x.dot<=(bF g x.aB).length
theorem gV.Ry{g:aj}{l:List Lr}(f:∀x∈l,gf g x){x:Lr}(h:gV g l x):gf g x:=by induction h with| base h=>exact f _ h| more _ _ h _ _=>{exact⟨Sm (gS h).1,BY _⟩}
theorem cJ{g:aj}{l:List Lr}(f:∀x∈l,gf g x){z:Lr}:z∈eT g l↔gV g l z:=by unfold eT;rw[List.mem_filter,AM];constructor;{rintro⟨_,h⟩;exact @of_decide_eq_true _ (Classical.propDecidable _) h};{intro h;exact⟨h.Ry f,@decide_eq_true _ (Classical.propDecidable _) h⟩}
theorem ss{g:aj}{l zs:List Lr}(f:∀x∈l,gf g x)(i:gp zs)(j:∀z,z∈zs↔gV g l z):zs=eT g l:=
 Fz i (iW g l) λz=>by rw[j,cJ f]
section
variable {α:Type}[DecidableEq α]
def dC(f:List α):Option α->List α×Int
 | none=>(f,-1)
 | some s=>if s∈f then (f,(f.idxOf s:Nat)) else (f++[s],(f.length:Nat))
def cB:List α->List (Option α)->List α×List Int
 | ck,[]=>(ck,[])
 | ck,o::os=>((cB (dC ck o).1 os).1,(dC ck o).2::(cB (dC ck o).1 os).2)
def oj(most:Nat)(step:α->List (Option α)):Nat->Nat->List α->List (List Int)->Option (List α×List (List Int))
 | 0,_,_,_=>none
 | f+1,i,g,rows=>match g[i]? with
  | none=>some (g,rows)
  | some st=>if (cB g (step st)).1.length<=most then oj most step f (i+1) (cB g (step st)).1 (rows++[(cB g (step st)).2]) else none
structure DF(ck:List α)(os:List (Option α))(row:List Int):Prop where
 len:row.length=os.length
 no:∀k:Nat,os[k]?=some none->row[k]?=some (-1)
 yes:∀(k:Nat) (s:α),os[k]?=some (some s)->∃j:Nat,row[k]?=some (j:Int)/\ck[j]?=some s
theorem JD(f:List α)(o:Option α):(∃ex,(dC f o).1=f++ex)/\(f.Nodup->(dC f o).1.Nodup)/\(∀s∈(dC f o).1,s∈f\/o=some s)/\
  (o=none->(dC f o).2=-1)/\(∀s,o=some s->∃j:Nat,(dC f o).2=(j:Int)/\(dC f o).1[j]?=some s):=by cases o with|none=>{exact⟨⟨[],(R3 _).symm⟩,λh=>h,λs h=>.inl h,λ_=>rfl,λs h=>by cases h⟩}|some s=>{unfold dC;by_cases h:s∈f;{simp only[nw h];refine⟨⟨[],(R3 _).symm⟩,λh=>h,λs h=>.inl h,λh=>(by cases h),λi e=>?_⟩;cases e;exact⟨_,rfl,by rw[gE (TX h),List.getElem_idxOf]⟩};{simp only[mb h];refine⟨⟨[s],rfl⟩,λl=>?_,λx hx=>?_,λh=>(by cases h),λi e=>?_⟩;{rw[S1];exact⟨l,by simp,λa p b g e=>h (by rw[n0] at g;subst g;subst e;exact p)⟩};{rcases AI.1 hx with hx | hx;{exact .inl hx};{exact .inr (by rw[n0.1 hx])}};{cases e;exact⟨_,rfl,by rw[R0 (mc _),Tr];rfl⟩}}}
theorem pb:∀(os:List (Option α)) (f:List α),(∃ex,(cB f os).1=f++ex)/\(f.Nodup->(cB f os).1.Nodup)/\(∀s∈(cB f os).1,s∈f\/some s∈os)/\DF (cB f os).1 os (cB f os).2
 | [],f=>⟨⟨[],(R3 _).symm⟩,λh=>h,λs h=>.inl h,⟨rfl,λk h=>by simp at h,λk s h=>by simp at h⟩⟩
 | o::os,f=>by{obtain⟨⟨p,r⟩,t,C,I,J⟩:=JD f o;obtain⟨⟨P,i⟩,R,U,g⟩:=pb os (dC f o).1;have e:(cB f (o::os))=((cB (dC f o).1 os).1,(dC f o).2::(cB (dC f o).1 os).2):=rfl;rw[e];refine⟨⟨p++P,?_⟩,λhn=>R (t hn),λs hs=>?_,⟨?_,λk hk=>?_,λk s hk=>?_⟩⟩;{rw[i,r,AS]};{rcases U s hs with hs | hs;{rcases C s hs with hs | hs;{exact .inl hs};{exact .inr (by rw[hs];exact R2 ..)}};{exact .inr (ma _ hs)}};{simp only[If,g.len]};{cases k with|zero=>{simp only[Tv] at hk |-;rw[I (mm hk)]}|succ k=>{simp only[S4] at hk |-;exact g.no k hk}};{cases k with|zero=>{simp only[Tv] at hk |-;obtain⟨j,h6,l⟩:=J s (mm hk);refine⟨j,by rw[h6],?_⟩;show (cB (dC f o).1 os).1[j]?=some s;rw[i,By (gS l).1];exact l}|succ k=>{simp only[S4] at hk |-;exact g.yes k s hk}}}
omit [DecidableEq α] in
theorem DF.more{f ex:List α}{os:List (Option α)}{row:List Int}(h:DF f os row):DF (f++ex) os row:=
 ⟨h.len,h.no,λk s hk=>let ⟨j,i,g⟩:=h.yes k s hk;⟨j,i,by rw[By (gS g).1];exact g⟩⟩
structure rz(most:Nat)(step:α->List (Option α))(first:α)(i:Nat)(ck:List α)(rows:List (List Int)):Prop where
 first:ck[0]?=some first
 nodup:ck.Nodup
 FA:ck.length<=most
 len:rows.length=i
 le:i<=ck.length
 row:∀(k:Nat) (st:α) (row:List Int),ck[k]?=some st->rows[k]?=some row->DF ck (step st) row
 from_:∀(j:Nat) (st:α),0<j->ck[j]?=some st->∃(k:Nat) (sk:α),k<j/\k<i/\ck[k]?=some sk/\some st∈step sk
theorem rz.next{most:Nat}{step:α->List (Option α)}{first:α}{i:Nat}{g:List α}{rows:List (List Int)}(h:rz most step first i g rows){st:α}(o:g[i]?=some st)(hm:(cB g (step st)).1.length<=most) :
  rz most step first (i+1) (cB g (step st)).1 (rows++[(cB g (step st)).2]):=by obtain⟨⟨ex,C⟩,R,U,h4⟩:=pb (step st) g;have hi:=(gS o).1;have f:∀k,k<g.length->(cB g (step st)).1[k]?=g[k]?:=λk hk=>by{rw[C,By hk]};refine⟨by rw[f 0 zo];exact h.first,R h.nodup,hm,by rw[q0,h.len];rfl,by rw[C,q0];omega,λk I row hk t=>?_,λj J hj l=>?_⟩;{by_cases e:k<i;{rw[f k zo] at hk;rw[By (by rw[h.len];exact e)] at t;have:=h.row k I row hk t;rw[C];exact this.more};{have r:k=i:=by{have:=(gS t).1;rw[q0,h.len,SF] at this;omega};subst r;rw[f k hi,o] at hk;obtain rfl:=mm hk;rw[R0 (by rw[h.len];exact mc _),h.len,Tr] at t;obtain rfl:=mm t;exact h4}};{by_cases e:j<g.length;{rw[f j e] at l;obtain⟨k,I,g1,g2,g3,g4⟩:=h.from_ j J hj l;exact⟨k,I,g1,by omega,by rw[f k zo];exact g3,g4⟩};{refine⟨i,st,by omega,by omega,by rw[f i hi];exact o,?_⟩;rcases U J (gM l) with h5 | h5;{exfalso;obtain⟨k,hk,r⟩:=UE h5;have P:=R h.nodup;have e1:(cB g (step st)).1[k]?=some J:=by{rw[f k hk,gE hk,r]};have e2:=(gS l).1;have:=(List.getElem?_inj (by rw[C,q0];omega) P).1 (e1.trans l.symm);omega};{exact h5}}}
omit [DecidableEq α] in
theorem rz.begin{most:Nat}(step:α->List (Option α))(first:α)(hm:1<=most):rz most step first 0 [first] []:=
 ⟨rfl,by simp,hm,rfl,BY _,λk st row _ h=>by simp at h,λj st f h=>by{have:=(gS h).1;rw[SF] at this;omega}⟩
theorem Bq{most:Nat}{step:α->List (Option α)}{first:α}:∀(f i:Nat) {l:List α} {rows:List (List Int)},rz most step first i l rows->∀{j g},oj most step f i l rows=some (j,g)->rz most step first j.length j g
 | 0,_,_,_,_,_,_,h=>by cases h
 | f+1,i,l,rows,o,j,g,h=>by{unfold oj at h;split at h;{rename_i r;cases h;have:=To.1 r;have hle:=o.le;have e:i=l.length:=by{omega};rw[<-e];exact o};{rename_i st p;split at h;{rename_i hm;exact Bq f (i+1) (o.next p hm) h};{cases h}}}
end
theorem rz.all{α:Type}{most:Nat}{step:α->List (Option α)}{first:α}{i:Nat}{g:List α}{rows:List (List Int)}(h:rz most step first i g rows){P:α->Prop}(o:P first)(hs:∀st s,P st->some s∈step st->P s):∀(j:Nat) (st:α),g[j]?=some st->P st:=by intro j;induction j using Nat.strongRecOn with| _ j r=>{intro st f;by_cases e:j=0;{subst e;rw[h.first] at f;obtain rfl:=mm f;exact o};{obtain⟨k,l,t,_,C,I⟩:=h.from_ j st zo f;exact hs l st (r k t l C) I}}
def iH(g:aj)(st:List Lr)(y:Sym):List Lr:=st.filterMap λx=>if bj g x=some y then some ⟨x.aB,x.dot+1⟩ else none
theorem jK{g:aj}{st:List Lr}{y:Sym}{z:Lr}:z∈iH g st y↔∃x∈st,bj g x=some y/\z=⟨x.aB,x.dot+1⟩:=by unfold iH;rw[Ue];constructor;{rintro⟨x,f,h⟩;split at h;{rename_i i;exact⟨x,f,i,(mm h).symm⟩};{cases h}};{rintro⟨x,f,i,rfl⟩;exact⟨x,f,by rw[nw i]⟩}
def cE(g:aj):List Sym:=((List.range g.ae).map λt=>(⟨true,t⟩:Sym))++(List.range g.az).map λn=>(⟨false,n⟩:Sym)
def JP(g:aj)(y:Sym):Nat:=if y.term=true then y.n else y.n+g.ae
def MJ(g:aj)(y:Sym):Bool:=if y.term=true then decide (y.n<g.ae) else decide (y.n<g.az)
theorem kX{g:aj}{y:Sym}:MJ g y=true↔dr g.ae g.az y:=by unfold MJ dr;split<;>simp
theorem ez(g:aj):(cE g).length=g.ae+g.az:=by unfold cE;simp
theorem oe{g:aj}{y:Sym}(h:dr g.ae g.az y):(cE g)[JP g y]?=some y:=by obtain⟨b,n⟩:=y;unfold cE JP;unfold dr at h;cases b with|true=>{have h:n<g.ae:=h;rw[nw rfl,By (by simpa using h)];simp[h]}|false=>{have h:n<g.az:=h;rw[mb (by simp),R0 (by simp)];simp[h]}
theorem Fk{g:aj}{k:Nat}{y:Sym}(h:(cE g)[k]?=some y):dr g.ae g.az y/\JP g y=k:=by unfold cE at h;by_cases hk:k<g.ae;{rw[By (by simpa using hk)] at h;simp[hk] at h;subst h;exact⟨hk,rfl⟩};{rw[R0 (by simp;omega)] at h;rw[sh,Tb,zm] at h;cases he:(List.range g.az)[k-g.ae]? with|none=>{rw[he] at h;cases h}|some n=>{rw[he] at h;obtain rfl:=mm h;have f:=gS he;obtain⟨f,i⟩:=f;rw[UH] at i;rw[Tb] at f;refine⟨show n<g.az by omega,?_⟩;show n+g.ae=k;omega}}
theorem rp{g:aj}(i:Valid g){x:Lr}{y:Sym}(h:bj g x=some y):dr g.ae g.az y:=by rw[cq] at h;unfold bF at h;split at h;{have:=gM h;rw[n0.1 this];exact i.range.start};{cases f:g.rules[x.aB]? with|none=>{rw[f] at h;simp at h}|some r=>{rw[f] at h;exact(i.right r (gM f)).2.2 y (gM h)}}
theorem gV.zero{g:aj}{l:List Lr}{z:Lr}(h:gV g l z):z∈l\/(z.dot=0/\z.aB<g.rules.length):=by cases h with| base h=>exact .inl h| more _ _ h _=>{exact .inr ⟨rfl,(gS h).1⟩}
structure lD(g:aj)(I:List (List Lr))(rows:List (List Int)):Prop where
 len:rows.length=I.length
 ok:∀(s:Nat) (st:List Lr),I[s]?=some st->∀x∈st,gf g x
 zero:∃st,I[0]?=some st/\∀z,z∈st↔gV g [⟨g.rules.length,0⟩] z
 from_:∀(s:Nat) (st:List Lr),0<s->I[s]?=some st->∃l:List Lr,(∀x∈l,0<x.dot)/\l≠[]/\∀z,z∈st↔gV g l z
 row:∀(s:Nat) (st:List Lr) (row:List Int),I[s]?=some st->rows[s]?=some row->row.length=g.ae+g.az
 no:∀(s k:Nat) (st:List Lr) (row:List Int) (y:Sym),I[s]?=some st->rows[s]?=some row->(cE g)[k]?=some y->iH g st y=[]->row[k]?=some (-1)
 yes:∀(s k:Nat) (st:List Lr) (row:List Int) (y:Sym),I[s]?=some st->rows[s]?=some row->(cE g)[k]?=some y->iH g st y≠[]->∃(j:Nat) (st':List Lr),row[k]?=some (j:Int)/\I[j]?=some st'/\∀z,z∈st'↔gV g (iH g st y) z
def rZ(I:List (List Lr))(s:Nat)(x:Lr):Prop:=∃st,I[s]?=some st/\x∈st
def pJ(g:aj)(rows:List (List Int))(s:Nat)(y:Sym):Option Nat:=if MJ g y=true then (match rows[s]? with
 | some row=>(match row[JP g y]? with
  | some j=>if 0<=j then some j.toNat else none
  | none=>none)
 | none=>none) else none
section
variable {g:aj}{I:List (List Lr)}{rows:List (List Int)}
theorem lD.rowAt(h:lD g I rows){s:Nat}{st:List Lr}(hs:I[s]?=some st):∃row,rows[s]?=some row:=⟨_,gE (by rw[h.len];exact(gS hs).1)⟩
theorem lD.go(t:Valid g)(h:lD g I rows){s:Nat}{st:List Lr}(hs:I[s]?=some st){y:Sym}(l:dr g.ae g.az y) :
  (iH g st y=[]->pJ g rows s y=none)/\(iH g st y≠[]->∃j f,pJ g rows s y=some j/\I[j]?=some f/\∀z,z∈f↔gV g (iH g st y) z):=by obtain⟨row,i⟩:=h.rowAt hs;have hk:=oe l;unfold pJ;rw[nw (kX.2 l),i];dsimp only;refine⟨λe=>?_,λe=>?_⟩;{rw[h.no s _ st row y hs i hk e];rfl};{obtain⟨j,f,o,p,r⟩:=h.yes s _ st row y hs i hk e;rw[o];exact⟨j,f,by simp,p,r⟩}
theorem lD.goes(r:Valid g)(h:lD g I rows){s l:Nat}{y:Sym}(f:pJ g rows s y=some l):∃st i,I[s]?=some st/\I[l]?=some i/\iH g st y≠[]/\∀z,z∈i↔gV g (iH g st y) z:=by have o:dr g.ae g.az y:=by{unfold pJ at f;split at f;{rename_i t;exact kX.1 t};{cases f}};obtain⟨st,hs⟩:∃st,I[s]?=some st:=by{unfold pJ at f;rw[nw (kX.2 o)] at f;split at f;{rename_i row C;exact⟨_,gE (by rw[<-h.len];exact(gS C).1)⟩};{cases f}};obtain⟨J,P⟩:=h.go r hs o;by_cases e:iH g st y=[];{rw[J e] at f;cases f};{obtain⟨j,i,p,R,U⟩:=P e;rw[f] at p;obtain rfl:=mm p;exact⟨st,i,hs,R,e,U⟩}
theorem lD.lr(hg:Valid g)(h:lD g I rows){la:Nat->Lr->Nat->Prop}(h0:la 0 ⟨g.rules.length,0⟩ g.ae)
  (hc:∀{s:Nat} {x:Lr} {k:Nat} {r:cb} {t u:Nat},rZ I s x->la s x u->bj g x=some ⟨false,r.left⟩->g.rules[k]?=some r->(dE g (cD g x) t\/(gu g (cD g x)/\la s x t))->la s ⟨k,0⟩ t)
  (hs:∀{s s':Nat} {x:Lr} {y:Sym},rZ I s x->bj g x=some y->pJ g rows s y=some s'->∀t,la s x t->la s' ⟨x.aB,x.dot+1⟩ t):tz g (rZ I) la (pJ g rows):=by
 obtain⟨az,i,hz⟩:=h.zero;have p:∀{s:Nat} {st:List Lr},I[s]?=some st->∃l:List Lr,(∀z,z∈st↔gV g l z)/\((s=0/\l=[⟨g.rules.length,0⟩])\/∀x∈l,0<x.dot):=λ{s st} f=>by
  rcases Sd s with rfl | hp
  ·rw[i] at f;obtain rfl:=mm f;exact⟨_,hz,.inl ⟨rfl,rfl⟩⟩
  ·obtain⟨l,C,_,o⟩:=h.from_ s st hp f;exact⟨l,o,.inr C⟩
 exact {
  start:=⟨az,i,(hz _).2 (.base me)⟩
  Cu:=h0
  xR:=λ{s x k r} ⟨st,f,J⟩ ha hr=>by
   obtain⟨l,hl,_⟩:=p f;exact⟨st,f,(hl _).2 (.more ((hl _).1 J) ha hr rfl)⟩
  eT:=hc
  step:=λ{s x y} ag ha=>by
   obtain⟨st,f,J⟩:=id ag;have hm:(⟨x.aB,x.dot+1⟩:Lr)∈iH g st y:=jK.2 ⟨x,J,ha,rfl⟩;obtain⟨j,R,C,U,o⟩:=(h.go hg f (rp hg ha)).2 (λe=>by rw[e] at hm;cases hm);exact⟨j,C,⟨R,U,(o _).2 (.base hm)⟩,hs ag ha C⟩
  back:=λ{s s' y k d} ac ⟨a5,aa,J⟩=>by
   obtain⟨st,R,C,U,_,h4⟩:=h.goes hg ac;rw[U] at aa;obtain rfl:=mm aa;rcases ((h4 _).1 J).zero with P | ⟨P,_⟩
   ·obtain⟨z,a0,a1,an⟩:=jK.1 P;obtain⟨Z,zd⟩:=z;simp only[Lr.mk.injEq,Nat.add_right_cancel_iff] at an;obtain⟨rfl,rfl⟩:=an;exact⟨⟨st,C,a0⟩,a1⟩
   ·exact absurd P (Nat.succ_ne_zero d)
  fill:=λ{s k r} ⟨st,f,J⟩ hr=>by
   obtain⟨l,hl,hl2⟩:=p f;have hk:=(gS hr).1;have hc:=(hl _).1 J;cases hc with
   | base hb=>
    rcases hl2 with ⟨_,rfl⟩ | hl2
    ·have e:=n0.1 hb;simp only[Lr.mk.injEq,Uw] at e;omega
    ·exact absurd (hl2 _ hb) (Tt 0)
   | more C U o h4=>
    rw[hr] at o;obtain rfl:=mm o;subst h4;have hm:=jK.2 ⟨_,(hl _).2 C,U,rfl⟩;obtain⟨j,R,g1,_,_⟩:=(h.go hg f (rp hg U)).2 (λe=>by rw[e] at hm;cases hm);exact⟨j,g1⟩
  first:=λ{s} ⟨st,f,J⟩=>by
   obtain⟨l,hl,hl2⟩:=p f;rcases hl2 with ⟨C,_⟩ | hl2
   ·exact C
   ·rcases ((hl _).1 J).zero with o | ⟨_,o⟩
    ·exact absurd (hl2 _ o) (Tt 0)
    ·exact absurd o (Tt _)
  zero:=λ{s y} ac=>by
   obtain⟨st,R,C,U,o,h4⟩:=h.goes hg ac;rw[i] at U;obtain rfl:=mm U;obtain⟨z,ao⟩:=List.exists_mem_of_ne_nil _ o;have hd:0<z.dot:=by obtain⟨x,_,_,rfl⟩:=jK.1 ao;exact Nat.succ_pos _
   rcases ((hz z).1 ((h4 z).2 (.base ao))).zero with P | ⟨P,_⟩
   ·rw[n0.1 P] at hd;exact absurd hd (Tt 0)
   ·omega
  QS:=λ{x} ⟨st,f,J⟩=>by
   rw[i] at f;obtain rfl:=mm f;rcases ((hz x).1 J).zero with P | ⟨P,_⟩
   ·rw[n0.1 P]
   ·exact P }
end
noncomputable def bB(P:Nat->Prop):Nat->Nat
 | 0=>0
 | n+1=>bB P n+(if @decide (P n) (Classical.propDecidable _)=true then 2 ^ n else 0)
theorem iF(P:Nat->Prop):∀n,bB P n<2 ^ n
 | 0=>Nat.one_pos
 | n+1=>by{have:=iF P n;unfold bB;rw[Ur];split<;>omega}
theorem ef(P:Nat->Prop):∀(n t:Nat),(bB P n).testBit t=true↔t<n/\P t
 | 0,t=>by unfold bB;simp
 | n+1,t=>by{have f:=iF P n;have j:=ef P n t;unfold bB;by_cases e:t=n;{subst e;have g:(bB P t).testBit t=false:=Tl f;split;{rename_i h;rw[U1,Nat.testBit_two_pow_add_eq,g];simp only[TD,true_iff];exact⟨Sp _,@of_decide_eq_true _ (Classical.propDecidable _) h⟩};{rename_i h;rw[Tc,g];simp only[SD,false_iff,not_and];exact λ_ l=>h (@decide_eq_true _ (Classical.propDecidable _) l)}};{have o:(t<n+1/\P t)↔(t<n/\P t):=⟨λ⟨a,b⟩=>⟨by omega,b⟩,λ⟨a,b⟩=>⟨by omega,b⟩⟩;rw[o,<-j];split;{by_cases C:t<n;{rw[U1,Nat.testBit_two_pow_add_gt zo]};{have i:n<t:=by{omega};have r:(bB P n).testBit t=false:=Tl (Nat.lt_trans f (TK (by decide) i));have a2:(bB P n+2 ^ n).testBit t=false:=Tl (by{have:2 ^ (n+1)<=2 ^ t:=R4 (by decide) i;rw[Ur] at this;omega});rw[r,a2]}};{rw[Tc]}}}
theorem Ar{P:Nat->Prop}{n m:Nat}(g:m<2 ^ n)(f:∀t,m.testBit t=true↔t<n/\P t):m=bB P n:=by apply TJ;intro t;have:=ef P n t;rw[<-f] at this;cases hm:m.testBit t<;>cases hk:(bB P n).testBit t<;>simp[hm,hk] at this |-
structure aM where
 item:Lr
 set:Nat
deriving DecidableEq,Inhabited
def aD(l:List aM):List Lr:=l.map (·.item)
inductive wo(g:aj)(l:List aM):Lr->Nat->Prop
 | base {z:Lr} {m t:Nat}:⟨z,m⟩∈l->m.testBit t=true->t<=g.ae->wo g l z t
 | v9 {x:Lr} {k t:Nat} {r:cb}:gV g (aD l) x->bj g x=some ⟨false,r.left⟩->g.rules[k]?=some r->dE g (cD g x) t->wo g l ⟨k,0⟩ t
 | pass {x:Lr} {k t:Nat} {r:cb}:gV g (aD l) x->bj g x=some ⟨false,r.left⟩->g.rules[k]?=some r->gu g (cD g x)->wo g l x t->wo g l ⟨k,0⟩ t
noncomputable def bN(g:aj)(l:List aM):List aM:=(eT g (aD l)).map λz=>⟨z,bB (wo g l z) (g.ae+1)⟩
theorem da(g:aj)(l:List aM):aD (bN g l)=eT g (aD l):=by unfold aD bN;rw[Tj];have:(λx:aM=>x.item) ∘ (λz=>(⟨z,bB (wo g l z) (g.ae+1)⟩:aM))=id:=rfl;rw[this,List.map_id];rfl
theorem xB{g:aj}{l:List aM}(f:∀x∈aD l,gf g x){z:Lr}{m:Nat}:⟨z,m⟩∈bN g l↔gV g (aD l) z/\m=bB (wo g l z) (g.ae+1):=by unfold bN;rw[tx];constructor;{rintro⟨x,i,e⟩;rw[cJ f] at i;simp only[aM.mk.injEq] at e;obtain⟨rfl,rfl⟩:=e;exact⟨i,rfl⟩};{rintro⟨j,rfl⟩;exact⟨z,(cJ f).2 j,rfl⟩}
theorem Hu.lt{g:aj}(f:Valid g){n t:Nat}(h:Hu g n t):t<g.ae:=by induction h with| term i e _=>{have:=(f.right _ i).2.2 ⟨true,_⟩ (by rw[e];exact R8 _ me);exact this}| Js _ _ _ _ j=>{exact j}
theorem dE.lt{g:aj}(f:Valid g){l:List Sym}(i:∀s∈l,dr g.ae g.az s){t:Nat}(h:dE g l t):t<g.ae:=by obtain⟨pre,s,post,rfl,_,j⟩:=h;rcases j with rfl | ⟨_,o⟩;{exact i _ (R8 _ me)};{exact o.lt f}
theorem uN{g:aj}(f:Valid g)(k:Nat):∀s∈bF g k,dr g.ae g.az s:=by unfold bF;split;{intro s hs;rw[n0.1 hs];exact f.range.start};{cases h:g.rules[k]? with|none=>{intro s hs;cases hs}|some r=>{exact(f.right r (gM h)).2.2}}
theorem pz{g:aj}(f:Valid g){x:Lr}{t:Nat}(h:dE g (cD g x) t):t<g.ae:=
 h.lt f λs hs=>uN f _ s (TL hs)
theorem wo.le{g:aj}(f:Valid g){l:List aM}{z:Lr}{t:Nat}(h:wo g l z t):t<=g.ae:=by induction h with| base _ _ h=>exact h| v9 _ _ _ h=>exact Sm (pz f h)| pass _ _ _ _ _ i=>{exact i}
theorem wo.xR{g:aj}{l:List aM}{z:Lr}{t:Nat}(h:wo g l z t):gV g (aD l) z:=by cases h with| base h _ _=>exact .base (tx.2 ⟨_,h,rfl⟩)| v9 f i j _=>exact .more f i j rfl| pass f i j _ _=>{exact .more f i j rfl}
theorem vf{g:aj}(i:Valid g){l:List aM}(f:∀x∈aD l,gf g x){z:Lr}{t:Nat}:(∃m,⟨z,m⟩∈bN g l/\m.testBit t=true)↔wo g l z t:=by constructor;{rintro⟨m,hm,j⟩;obtain⟨_,rfl⟩:=(xB f).1 hm;exact((ef _ _ _).1 j).2};{intro h;exact⟨_,(xB f).2 ⟨h.xR,rfl⟩,(ef _ _ _).2 ⟨Nat.lt_succ_of_le (h.le i),h⟩⟩}
noncomputable def Fh(g:aj)(st:List Lr):List (Option (List Lr)):=(cE g).map λy=>if iH g st y=[] then none else some (eT g (iH g st y))
def cG(g:aj)(st:List aM)(y:Sym):List aM:=st.filterMap λx=>if bj g x.item=some y then some ⟨⟨x.item.aB,x.item.dot+1⟩,x.set⟩ else none
noncomputable def Bj(g:aj)(st:List aM):List (Option (List aM)):=(cE g).map λy=>if cG g st y=[] then none else some (bN g (cG g st y))
noncomputable def Bv(g:aj):List Lr:=eT g [⟨g.rules.length,0⟩]
noncomputable def ew(g:aj):List aM:=bN g [⟨⟨g.rules.length,0⟩,2 ^ g.ae⟩]
noncomputable def iL(g:aj):Option (List (List Lr)×List (List Int)):=oj 400 (Fh g) 401 0 [Bv g] []
noncomputable def LJ(g:aj):Option (List (List aM)×List (List Int)):=oj 400 (Bj g) 401 0 [ew g] []
theorem eH(g:aj)(st:List aM)(y:Sym):aD (cG g st y)=iH g (aD st) y:=by unfold aD cG iH;induction st with|nil=>rfl|cons a st f=>{rw[y2,T9,T9];by_cases h:bj g a.item=some y;{rw[nw h,nw h];simp only[y2,f]};{rw[mb h,mb h];exact f}}
theorem pO{g:aj}{st:List aM}{y:Sym}{z:Lr}{m:Nat}:⟨z,m⟩∈cG g st y↔∃x,⟨x,m⟩∈st/\bj g x=some y/\z=⟨x.aB,x.dot+1⟩:=by unfold cG;rw[Ue];constructor;{rintro⟨⟨x,n⟩,f,h⟩;split at h;{rename_i i;have:=mm h;simp only[aM.mk.injEq] at this;obtain⟨rfl,rfl⟩:=this;exact⟨x,f,i,rfl⟩};{cases h}};{rintro⟨x,f,i,rfl⟩;exact⟨⟨x,m⟩,f,by rw[nw i]⟩}
theorem fB{g:aj}{st:List Lr}{y:Sym}:∀z∈iH g st y,gf g z/\0<z.dot:=by intro z j;obtain⟨x,_,i,rfl⟩:=jK.1 j;rw[cq] at i;have f:=(gS i).1;refine⟨⟨?_,f⟩,Nat.succ_pos _⟩;show x.aB<=_;rcases AT g.rules.length x.aB with h | h;{unfold bF at f;rw[mb zo,D2 zo] at f;simp at f};{exact h}
theorem iQ{g:aj}:∀z∈[(⟨g.rules.length,0⟩:Lr)],gf g z:=by intro z f;rw[n0.1 f];exact⟨mc _,BY _⟩
theorem gR{α β:Type}{f:α->β}{l:List α}{k:Nat}{a:α}(h:l[k]?=some a):(l.map f)[k]?=some (f a):=by rw[zm,h];rfl
theorem kA{g:aj}{l:List Lr}:∀x∈eT g l,gf g x:=λx f=>AM.1 (List.mem_filter.1 f).1
theorem fP{g:aj}{I:List (List Lr)}{rows:List (List Int)}(h:iL g=some (I,rows)):lD g I rows/\rz 400 (Fh g) (Bv g) I.length I rows:=by
 have i:=Bq 401 0 (rz.begin (Fh g) (Bv g) (by decide)) h;refine⟨?_,i⟩;have f:∀(st:List Lr) (k:Nat) (y:Sym),(cE g)[k]?=some y->(Fh g st)[k]?=some (if iH g st y=[] then none else some (eT g (iH g st y))):=λst k y hk=>gR hk;exact {
  len:=i.len
  ok:=i.all (P:=λst=>∀x∈st,gf g x) kA (λst s _ hs=>by
   obtain⟨y,_,l⟩:=tx.1 hs;split at l
   ·cases l
   ·obtain rfl:=mm l;exact kA)
  zero:=⟨_,i.first,λz=>cJ iQ⟩
  from_:=λs st t hs=>by
   obtain⟨k,U,_,_,h3,C⟩:=i.from_ s st t hs;obtain⟨y,_,l⟩:=tx.1 C;split at l
   ·cases l
   ·rename_i r;obtain rfl:=mm l;exact⟨_,λx o=>(fB x o).2,r,λz=>cJ λx o=>(fB x o).1⟩
  row:=λs st row hs p=>by
   rw[(i.row s st row hs p).len];unfold Fh;rw[sh,ez]
  no:=λs k st row y hs p hk he=>(i.row s st row hs p).no k (by rw[f st k y hk,nw he])
  yes:=λs k st row y hs p hk he=>by
   obtain⟨j,J,R⟩:=(i.row s st row hs p).yes k _ (by rw[f st k y hk,mb he]);exact⟨j,_,J,R,λz=>cJ λx o=>(fB x o).1⟩ }
theorem ph{g:aj}{st:List aM}{y:Sym}:cG g st y=[]↔iH g (aD st) y=[]:=by rw[<-eH];unfold aD;exact List.map_eq_nil_iff.symm
theorem sL{g:aj}{S:List (List aM)}{rows:List (List Int)}(h:LJ g=some (S,rows)):lD g (S.map aD) rows/\rz 400 (Bj g) (ew g) S.length S rows:=by
 have r:=Bq 401 0 (rz.begin (Bj g) (ew g) (by decide)) h;refine⟨?_,r⟩;have l:∀(st:List aM) (k:Nat) (y:Sym),(cE g)[k]?=some y->(Bj g st)[k]?=some (if cG g st y=[] then none else some (bN g (cG g st y))):=λst k y hk=>gR hk;have o:∀{s:Nat} {st:List Lr},(S.map aD)[s]?=some st->∃I,S[s]?=some I/\st=aD I:=λ{s st} hs=>by
  rw[zm] at hs;cases hk:S[s]? with
  | none=>rw[hk] at hs;cases hs
  | some I=>rw[hk] at hs;exact⟨I,rfl,(mm hs).symm⟩
 have t:∀(st:List aM) (y:Sym) (z:Lr),z∈aD (bN g (cG g st y))↔gV g (iH g (aD st) y) z:=λst y z=>by
  rw[da,eH,cJ λx p=>(fB x p).1]
 exact {
  len:=by rw[sh];exact r.len
  ok:=λs st hs=>by
   obtain⟨f,i,rfl⟩:=o hs;refine r.all (P:=λst=>∀x∈aD st,gf g x) (λx p=>?_) (λst s _ hs=>?_) s f i
   ·unfold ew at p;rw[da] at p;exact kA x p
   ·obtain⟨y,_,C⟩:=tx.1 hs;split at C
    ·cases C
    ·obtain rfl:=mm C;intro x p;rw[da] at p;exact kA x p
  zero:=⟨_,gR r.first,λz=>by
   show z∈aD (bN g _)↔_;rw[da];exact cJ iQ⟩
  from_:=λs st U hs=>by
   obtain⟨f,i,rfl⟩:=o hs;obtain⟨k,I,_,_,h3,h4⟩:=r.from_ s f U i;obtain⟨y,_,C⟩:=tx.1 h4;split at C
   ·cases C
   ·rename_i R;obtain rfl:=mm C;exact⟨_,λx p=>(fB x p).2,λe=>R (ph.2 e),t I y⟩
  row:=λs st row hs J=>by
   obtain⟨f,i,rfl⟩:=o hs;rw[(r.row s f row i J).len];unfold Bj;rw[sh,ez]
  no:=λs k st row y hs J hk he=>by
   obtain⟨f,i,rfl⟩:=o hs;exact(r.row s f row i J).no k (by rw[l f k y hk,nw (ph.2 he)])
  yes:=λs k st row y hs J hk he=>by
   obtain⟨f,i,rfl⟩:=o hs;obtain⟨j,h1,h2⟩:=(r.row s f row i J).yes k _ (by rw[l f k y hk,mb (λe=>he (ph.1 e))]);exact⟨j,_,h1,gR h2,t f y⟩ }
inductive A3(g:aj):Nat->Prop
 | start:A3 g g.start
 | more {r:cb} {m:Nat}:r∈g.rules->A3 g r.left->⟨false,m⟩∈r.right->A3 g m
inductive Dh(g:aj):Nat->Nat->Prop
 | start:Dh g g.start g.ae
 | v9 {r:cb} {pre post:List Sym} {m t:Nat}:r∈g.rules->A3 g r.left->r.right=pre++⟨false,m⟩::post->dE g post t->Dh g m t
 | pass {r:cb} {pre post:List Sym} {m t:Nat}:r∈g.rules->A3 g r.left->r.right=pre++⟨false,m⟩::post->gu g post->Dh g r.left t->Dh g m t
def qC(g:aj)(k:Nat):Nat:=((g.rules[k]?).map (·.left)).getD 0
def sK(g:aj)(x:Lr)(t:Nat):Prop:=if x.aB<g.rules.length then Dh g (qC g x.aB) t else t=g.ae
theorem mz{g:aj}{k:Nat}{r:cb}(h:g.rules[k]?=some r):qC g k=r.left:=by unfold qC;rw[h];rfl
inductive jP(g:aj)(I:List (List Lr))(rows:List (List Int)):Nat->Lr->Nat->Prop
 | start:jP g I rows 0 ⟨g.rules.length,0⟩ g.ae
 | goto {s s' t:Nat} {x:Lr} {y:Sym}:jP g I rows s x t->rZ I s x->bj g x=some y->pJ g rows s y=some s'->jP g I rows s' ⟨x.aB,x.dot+1⟩ t
 | LA {x:Lr} {k t:Nat} {r:cb}:rZ I 0 x->bj g x=some ⟨false,r.left⟩->g.rules[k]?=some r->dE g (cD g x) t->jP g I rows 0 ⟨k,0⟩ t
 | v9 {s s' u t k:Nat} {v x:Lr} {y:Sym} {r:cb}:jP g I rows s v u->rZ I s v->pJ g rows s y=some s'->rZ I s' x->bj g x=some ⟨false,r.left⟩->g.rules[k]?=some r->dE g (cD g x) t->jP g I rows s' ⟨k,0⟩ t
 | pass {s t k:Nat} {x:Lr} {r:cb}:jP g I rows s x t->rZ I s x->bj g x=some ⟨false,r.left⟩->g.rules[k]?=some r->gu g (cD g x)->jP g I rows s ⟨k,0⟩ t
noncomputable def jT(g:aj)(I:List (List Lr))(la:Nat->Lr->Nat->Prop):List (List aM):=(List.range I.length).map λs=>(I.getD s []).map λx=>⟨x,bB (la s x) (g.ae+1)⟩
def qb(S:List (List aM))(s:Nat)(x:Lr)(t:Nat):Prop:=∃st m,S[s]?=some st/\⟨x,m⟩∈st/\m.testBit t=true
theorem lS{g:aj}{I:List (List Lr)}{la:Nat->Lr->Nat->Prop}{s:Nat}:(jT g I la)[s]?=(I[s]?).map λst=>st.map λx=>⟨x,bB (la s x) (g.ae+1)⟩:=by unfold jT;rw[zm];by_cases h:s<I.length;{rw[SQ h,gE h,Si,Si,qs,gE h];rfl};{rw[D2 (by simpa using h),D2 zo];rfl}
theorem vp{g:aj}{I:List (List Lr)}{la:Nat->Lr->Nat->Prop}:(jT g I la).map aD=I:=by apply Sb;intro s;rw[zm,lS];cases I[s]? with|none=>rfl|some st=>{rw[Si,Si];congr 1;unfold aD;rw[Tj];have:(λx:aM=>x.item) ∘ (λx=>(⟨x,bB (la s x) (g.ae+1)⟩:aM))=id:=rfl;rw[this,List.map_id]}
theorem dG{g:aj}{I:List (List Lr)}{la:Nat->Lr->Nat->Prop}{s:Nat}{x:Lr}{t:Nat}:qb (jT g I la) s x t↔rZ I s x/\la s x t/\t<=g.ae:=by unfold qb rZ;constructor;{rintro⟨st,m,f,j,l⟩;rw[lS] at f;cases o:I[s]? with|none=>{rw[o] at f;cases f}|some i=>{rw[o] at f;obtain rfl:=mm f;obtain⟨z,p,e⟩:=tx.1 j;simp only[aM.mk.injEq] at e;obtain⟨rfl,rfl⟩:=e;have:=(ef _ _ _).1 l;exact⟨⟨i,rfl,p⟩,this.2,by omega⟩}};{rintro⟨⟨i,f,j⟩,l,r⟩;exact⟨_,_,by rw[lS,f];rfl,tx.2 ⟨x,j,rfl⟩,(ef _ _ _).2 ⟨by omega,l⟩⟩}
theorem BE{g:aj}{I:List (List Lr)}{rows:List (List Int)}(h:iL g=some (I,rows)):∀(s:Nat) (st:List Lr),I[s]?=some st->∀x∈st,x.aB<g.rules.length->A3 g (qC g x.aB):=by obtain⟨hA,U⟩:=fP h;have f:∀l:List Lr,(∀x∈l,x.aB<g.rules.length->A3 g (qC g x.aB))->∀z,gV g l z->z.aB<g.rules.length->A3 g (qC g z.aB):=by{intro l hl z j;induction j with| base h=>exact hl _ h| @more x n k r h1 i h3 h4 ih=>{intro _;show A3 g (qC g k);rw[mz h3,h4];rw[cq] at i;unfold bF at i;split at i;{have:=n0.1 (gM i);simp only[Sym.mk.injEq,Uk] at this;subst this;exact .start};{cases o:g.rules[x.aB]? with|none=>{rw[o] at i;simp at i}|some r2=>{rw[o] at i;have R:=ih (gS o).1;rw[mz o] at R;exact .more (gM o) R (gM i)}}}};refine U.all (P:=λst=>∀x∈st,x.aB<g.rules.length->A3 g (qC g x.aB)) (λx C=>?_) (λst s J hs=>?_);{refine f _ (λy p t=>?_) x ((cJ iQ).1 C);rw[n0.1 p] at t;exact absurd t (Tt _)};{obtain⟨y,_,p⟩:=tx.1 hs;split at p;{cases p};{obtain rfl:=mm p;intro x C;refine f _ (λz j=>?_) x ((cJ λz j=>(fB z j).1).1 C);obtain⟨q,hq,_,rfl⟩:=jK.1 j;exact J q hq}}
theorem Lz{g:aj}{k d:Nat}{r:cb}{y:Sym}(f:g.rules[k]?=some r)(h:bj g ⟨k,d⟩=some y):r.right=r.right.take d++y::cD g ⟨k,d⟩:=by rw[cq] at h;have h:(bF g k)[d]?=some y:=h;have e:cD g ⟨k,d⟩=(bF g k).drop (d+1):=rfl;rw[e,dV f];rw[dV f] at h;obtain⟨i,j⟩:=gS h;rw[<-j,<-OF i,S0]
theorem FJ{g:aj}{d:Nat}{y:Sym}(h:bj g ⟨g.rules.length,d⟩=some y):y=⟨false,g.start⟩/\d=0/\cD g ⟨g.rules.length,d⟩=[]:=by rw[cq] at h;have h:(bF g g.rules.length)[d]?=some y:=h;rw[fD] at h;cases d with|zero=>{refine⟨(mm h).symm,rfl,?_⟩;show (bF g g.rules.length).drop 1=[];rw[fD];rfl}|succ d=>{simp at h}
theorem O9{g:aj}(hg:Valid g){I:List (List Lr)}{rows:List (List Int)}(h:iL g=some (I,rows)):tz g (rZ I) (qb (jT g I λ_=>sK g)) (pJ g rows):=by obtain⟨hA,hN⟩:=fP h;obtain⟨av,j,hz⟩:=hA.zero;refine hA.lr hg (dG.2 ⟨⟨av,j,(hz _).2 (.base me)⟩,?_,mc _⟩) ?_ ?_;{unfold sK;rw[mb (Tt _)]};{intro s x k r t u aa hu ha hr R;rw[dG];obtain⟨st,o,hx⟩:=aa;have hk:=(gS hr).1;obtain⟨U,xd⟩:=x;have ae:rZ I s ⟨k,0⟩:=by{rcases Sd s with rfl | hp;{rw[j] at o;obtain rfl:=mm o;exact⟨_,j,(hz _).2 (.more ((hz _).1 hx) ha hr rfl)⟩};{obtain⟨l,_,_,h3⟩:=hA.from_ s st hp o;exact⟨st,o,(h3 _).2 (.more ((h3 _).1 hx) ha hr rfl)⟩}};have af:sK g ⟨k,0⟩ t:=by{unfold sK;rw[nw hk,mz hr];by_cases ac:U<g.rules.length;{have C:=gE ac;generalize g.rules[U]=r2 at C;have ag:=gM C;have J:=BE h s st o _ hx ac;have J:A3 g (qC g U):=J;rw[mz C] at J;have al:=Lz C ha;rcases R with R | ⟨az,P⟩;{exact .v9 ag J al R};{have f:=(dG.1 P).2.1;unfold sK at f;rw[nw ac] at f;have f:Dh g (qC g U) t:=f;rw[mz C] at f;exact .pass ag J al az f}};{have a0:U=g.rules.length:=by{have:=(cq (g:=g) (x:=⟨U,xd⟩)).symm.trans ha;have h2:(bF g U)[xd]?=some ⟨false,r.left⟩:=this;rcases AT g.rules.length U with h3 | h3;{unfold bF at h2;rw[mb zo,D2 (l:=g.rules) (i:=U) zo] at h2;simp at h2};{omega}};subst a0;obtain⟨h1,_,h3⟩:=FJ ha;simp only[Sym.mk.injEq,Uk] at h1;rw[h1];rcases R with R | ⟨_,P⟩;{rw[h3] at R;obtain⟨pre,s1,post,e,_⟩:=R;exact absurd (congrArg List.length e) (by simp)};{have f:=(dG.1 P).2.1;unfold sK at f;rw[mb (Tt _)] at f;rw[f];exact .start}}};refine⟨ae,af,?_⟩;rcases R with R | ⟨_,P⟩;{exact Sm (pz hg R)};{exact(dG.1 P).2.2}};{intro s s' x y aa ha a1 t ht;obtain⟨_,h2,h3⟩:=dG.1 ht;obtain⟨st,a2,h4,f,_,h6⟩:=hA.goes hg a1;obtain⟨bb,h7,hx⟩:=aa;rw[h4] at h7;obtain rfl:=mm h7;exact dG.2 ⟨⟨a2,f,(h6 _).2 (.base (jK.2 ⟨x,hx,ha,rfl⟩))⟩,h2,h3⟩}
theorem jP.le{g:aj}(i:Valid g){I:List (List Lr)}{rows:List (List Int)}{s:Nat}{x:Lr}{t:Nat}(h:jP g I rows s x t):t<=g.ae:=by induction h with| start=>exact mc _| goto _ _ _ _ f=>exact f| LA _ _ _ h=>exact Sm (pz i h)| v9 _ _ _ _ _ _ h _=>exact Sm (pz i h)| pass _ _ _ _ _ f=>{exact f}
theorem MX{g:aj}(hg:Valid g){I:List (List Lr)}{rows:List (List Int)}(h:iL g=some (I,rows)):tz g (rZ I) (qb (jT g I (jP g I rows))) (pJ g rows):=by obtain⟨hA,hN⟩:=fP h;obtain⟨al,i,hz⟩:=hA.zero;have C:∀{s:Nat} {x:Lr} {k:Nat} {r:cb},rZ I s x->bj g x=some ⟨false,r.left⟩->g.rules[k]?=some r->rZ I s ⟨k,0⟩:=λ{s x k r} ⟨st,o,hx⟩ j J=>by{rcases Sd s with rfl | hp;{rw[i] at o;obtain rfl:=mm o;exact⟨_,i,(hz _).2 (.more ((hz _).1 hx) j J rfl)⟩};{obtain⟨l,_,_,p⟩:=hA.from_ s st hp o;exact⟨st,o,(p _).2 (.more ((p _).1 hx) j J rfl)⟩}};refine hA.lr hg (dG.2 ⟨⟨al,i,(hz _).2 (.base me)⟩,.start,mc _⟩) ?_ ?_;{intro s x k r t u f hu j J P;rw[dG];refine⟨C f j J,?_,?_⟩;{rcases P with P | ⟨ao,R⟩;{obtain⟨_,ap,_⟩:=dG.1 hu;have U:∀{s:Nat} {x:Lr} {u:Nat},jP g I rows s x u->s=0\/∃(q:Nat) (v:Lr) (u2:Nat) (y:Sym),jP g I rows q v u2/\rZ I q v/\pJ g rows q y=some s:=by{intro s x u h;induction h with| start=>exact .inl rfl| goto h1 h2 p h4 _=>exact .inr ⟨_,_,_,_,h1,h2,h4⟩| LA _ _ _ _=>exact .inl rfl| v9 h1 h2 p _ _ _ _ _=>exact .inr ⟨_,_,_,_,h1,h2,p⟩| pass _ _ _ _ _ ih=>{exact ih}};rcases U ap with rfl | ⟨q,v,u2,y,h1,h2,p⟩;{exact .LA f j J P};{exact .v9 h1 h2 p f j J P}};{exact .pass (dG.1 R).2.1 f j J ao}};{rcases P with P | ⟨_,R⟩;{exact Sm (pz hg P)};{exact(dG.1 R).2.2}}};{intro s s' x y f j ac t ht;obtain⟨_,h2,p⟩:=dG.1 ht;obtain⟨st,av,h4,h5,_,h6⟩:=hA.goes hg ac;have ad:=f;obtain⟨a4,h7,hx⟩:=f;rw[h4] at h7;obtain rfl:=mm h7;exact dG.2 ⟨⟨av,h5,(h6 _).2 (.base (jK.2 ⟨x,hx,j,rfl⟩))⟩,.goto h2 ad j ac,p⟩}
theorem O5{g:aj}(hg:Valid g){S:List (List aM)}{rows:List (List Int)}(h:LJ g=some (S,rows)):tz g (rZ (S.map aD)) (qb S) (pJ g rows):=by obtain⟨hA,hN⟩:=sL h;have R:∀(s:Nat) (st:List aM),S[s]?=some st->∃l,st=bN g l/\∀x∈aD l,gf g x:=hN.all (P:=λst=>∃l,st=bN g l/\∀x∈aD l,gf g x) ⟨_,rfl,iQ⟩ (λst s _ hs=>by{obtain⟨y,_,hy⟩:=tx.1 hs;split at hy;{cases hy};{obtain rfl:=mm hy;exact⟨_,rfl,λx C=>by rw[eH] at C;exact(fB x C).1⟩}});have f:∀{s:Nat} {x:Lr},rZ (S.map aD) s x->∃st l,S[s]?=some st/\st=bN g l/\(∀x∈aD l,gf g x)/\gV g (aD l) x:=λ{s x} ⟨st,i,C⟩=>by{rw[zm] at i;cases hk:S[s]? with|none=>{rw[hk] at i;cases i}|some sk=>{rw[hk] at i;obtain rfl:=mm i;obtain⟨l,rfl,I⟩:=R s sk hk;rw[da,cJ I] at C;exact⟨_,l,rfl,rfl,I,C⟩}};have o:∀{s:Nat} {l:List aM} {x:Lr} {t:Nat},S[s]?=some (bN g l)->(∀x∈aD l,gf g x)->(qb S s x t↔wo g l x t):=λ{s l x t} hs I=>by{rw[<-vf hg I];unfold qb;constructor;{rintro⟨st,m,p,h2,h3⟩;rw[hs] at p;obtain rfl:=mm p;exact⟨m,h2,h3⟩};{rintro⟨m,h2,h3⟩;exact⟨_,m,hs,h2,h3⟩}};refine hA.lr hg ?_ ?_ ?_;{rw[o (l:=[⟨⟨g.rules.length,0⟩,2 ^ g.ae⟩]) hN.first iQ];exact .base me (by simp) (mc _)};{intro s x k r t u U hu ha hr hb;obtain⟨st,l,p,rfl,I,C⟩:=f U;rw[o p I];rcases hb with hb | ⟨ap,ar⟩;{exact .v9 C ha hr hb};{exact .pass C ha hr ap ((o p I).1 ar)}};{intro s s' x y U ha av t ht;obtain⟨st,l,p,rfl,I,C⟩:=f U;have hy:=rp hg ha;have ac:∃m,⟨x,m⟩∈bN g l/\m.testBit t=true:=by{obtain⟨st,m,g1,g2,g3⟩:=ht;rw[p] at g1;obtain rfl:=mm g1;exact⟨m,g2,g3⟩};obtain⟨m,hm,az⟩:=ac;have hk:(⟨⟨x.aB,x.dot+1⟩,m⟩:aM)∈cG g (bN g l) y:=pO.2 ⟨x,hm,ha,rfl⟩;have a0:cG g (bN g l) y≠[]:=λe=>by{rw[e] at hk;cases hk};have a1:∀z∈aD (cG g (bN g l) y),gf g z:=λz hz=>by{rw[eH] at hz;exact(fB z hz).1};obtain⟨row,J⟩:∃row,rows[s]?=some row:=⟨_,gE (by rw[hN.len];exact(gS p).1)⟩;obtain⟨j,g1,g2⟩:=(hN.row s _ row p J).yes (JP g y) (bN g (cG g (bN g l) y)) (by{unfold Bj;rw[gR (oe hy),mb a0]});have e:pJ g rows s y=some j:=by{unfold pJ;rw[nw (kX.2 hy),J];dsimp only;rw[g1];simp};rw[av] at e;obtain rfl:=mm e;rw[o g2 a1];exact .base hk az (by{have:=(o p I).1 ht;exact this.le hg})}
def lg(l:List aM)(x:Lr)(t:Nat):Prop:=∃m,(⟨x,m⟩:aM)∈l/\m.testBit t=true
def bq:List aM->List aM->List aM
 | r::rs,x::xs=>⟨r.item,r.set ||| x.set⟩::bq rs xs
 | rs,_=>rs
theorem xx(row:List aM):bq row []=row:=by cases row<;>rfl
theorem mX:∀(row l:List aM),aD (bq row l)=aD row
 | [],l=>by cases l<;>rfl
 | r::rs,[]=>rfl
 | r::rs,x::xs=>by{have:=mX rs xs;unfold aD at this |-;show r.item::_=r.item::_;rw[this]}
theorem yg(row l:List aM):(bq row l).length=row.length:=by have:=congrArg List.length (mX row l);unfold aD at this;rwa [sh,sh] at this
theorem vO:∀{row l:List aM} {j:Nat} {r x:aM},row[j]?=some r->l[j]?=some x->bq row (l.take (j+1))=(bq row (l.take j)).set j ⟨r.item,r.set ||| x.set⟩/\(bq row (l.take j))[j]?=some r
 | [],_,_,_,_,h,_=>by simp at h
 | _::_,[],_,_,_,_,h=>by simp at h
 | r0::rs,x0::xs,0,r,x,f,g=>by{simp only[Tv,pr] at f g;subst f g;refine⟨?_,rfl⟩;show ⟨r0.item,r0.set ||| x0.set⟩::bq rs (xs.take 0)=_;rw[T3,xx];rfl}
 | r0::rs,x0::xs,j+1,r,x,f,g=>by{have:=@vO rs xs j r x (by simpa using f) (by simpa using g);refine⟨?_,this.2⟩;show ⟨r0.item,r0.set ||| x0.set⟩::bq rs (xs.take (j+1))=(⟨r0.item,r0.set ||| x0.set⟩::bq rs (xs.take j)).set (j+1) _;rw[this.1];rfl}
theorem lu:∀{row l:List aM},aD row=aD l->∀x t,lg (bq row l) x t↔lg row x t\/lg l x t
 | [],[],_,x,t=>by unfold bq;exact⟨.inl,λh=>h.elim id id⟩
 | [],_::_,h,_,_=>by cases h
 | _::_,[],h,_,_=>by cases h
 | r::rs,y::ys,h,x,t=>by{unfold aD at h;simp only[y2,Te] at h;obtain⟨f,i⟩:=h;have o:=lu (row:=rs) (l:=ys) i x t;obtain⟨p,C⟩:=r;obtain⟨J,ym⟩:=y;dsimp only at f;subst f;have j:∀(z:aM) (l:List aM),lg (z::l) x t↔(z.item=x/\z.set.testBit t=true)\/lg l x t:=λz l=>by{obtain⟨zi,I⟩:=z;constructor;{rintro⟨m,hm,g⟩;rcases IN.1 hm with e | e;{simp only[aM.mk.injEq] at e;exact .inl ⟨e.1.symm,by rw[<-e.2];exact g⟩};{exact .inr ⟨m,e,g⟩}};{rintro(⟨f,i⟩ | ⟨m,hm,g⟩);{exact⟨I,by dsimp only at f;rw[f];exact R2 ..,i⟩};{exact⟨m,ma _ hm,g⟩}}};show lg (⟨p,C ||| ym⟩::bq rs ys) x t↔_;rw[j,j,j,o];dsimp only;rw[S5,SO];constructor;{rintro(⟨h3,h4 | h4⟩ | h3 | h3);{exact .inl (.inl ⟨h3,h4⟩)};{exact .inr (.inl ⟨h3,h4⟩)};{exact .inl (.inr h3)};{exact .inr (.inr h3)}};{rintro((⟨h3,h4⟩ | h3) | (⟨h3,h4⟩ | h3));{exact .inl ⟨h3,.inl h4⟩};{exact .inr (.inl h3)};{exact .inl ⟨h3,.inr h4⟩};{exact .inr (.inr h3)}}}
theorem rR{B:Nat}:∀{row l:List aM},(∀x∈row,x.set<2 ^ B)->(∀x∈l,x.set<2 ^ B)->∀x∈bq row l,x.set<2 ^ B
 | [],l,h,_,x,f=>by cases l<;>exact h x f
 | r::rs,[],h,_,x,f=>h x f
 | r::rs,y::ys,g,i,x,f=>by{rcases IN.1 f with e | e;{rw[e];exact Tx (g r me) (i y me)};{exact rR (λx f=>g x (ma _ f)) (λx f=>i x (ma _ f)) x e}}
def mJ(l:List aM):Nat:=(l.map λx=>512-x.set).sum
def ov(L:List (List aM)):Nat:=(L.map mJ).sum
theorem nZ:∀{row l:List aM},(∀x∈row,x.set<512)->(∀x∈bq row l,x.set<512)->mJ (bq row l)<=mJ row/\(bq row l≠row->mJ (bq row l)<mJ row)
 | [],l,_,_=>by cases l<;>exact⟨mc _,λh=>absurd rfl h⟩
 | r::rs,[],_,_=>⟨mc _,λh=>absurd rfl h⟩
 | r::rs,y::ys,i,j=>by{obtain⟨p,a2⟩:=nZ (row:=rs) (l:=ys) (λx f=>i x (ma _ f)) (λx f=>j x (ma _ f));have t:=i r me;have C:r.set ||| y.set<512:=j ⟨r.item,r.set ||| y.set⟩ me;have I:r.set<=r.set ||| y.set:=Nat.left_le_or;show (512-(r.set ||| y.set))+mJ (bq rs ys)<=(512-r.set)+mJ rs/\((⟨r.item,r.set ||| y.set⟩::bq rs ys:List aM)≠r::rs->(512-(r.set ||| y.set))+mJ (bq rs ys)<(512-r.set)+mJ rs);refine⟨by omega,λg=>?_⟩;by_cases e:r.set ||| y.set=r.set;{have:bq rs ys≠rs:=λo=>g (by rw[e,o]);have:=a2 this;omega};{omega}}
theorem AB{L:List (List aM)}{k:Nat}{row row':List aM}(h:L[k]?=some row):ov (L.set k row')+mJ row=ov L+mJ row':=by unfold ov;rw[SW];exact tG (by rw[zm,h];rfl)
theorem Db{S:List (List aM)}{s:Nat}{x:Lr}{t:Nat}:qb S s x t↔∃st,S[s]?=some st/\lg st x t:=
 ⟨λ⟨st,m,f,g,i⟩=>⟨st,f,m,g,i⟩,λ⟨st,f,m,g,i⟩=>⟨st,m,f,g,i⟩⟩
theorem lE{L:List (List aM)}{k:Nat}{row l:List aM}(hk:L[k]?=some row)(hi:aD row=aD l){s:Nat}{x:Lr}{t:Nat}:qb (L.set k (bq row l)) s x t↔qb L s x t\/(s=k/\lg l x t):=by have i:=(gS hk).1;rw[Db,Db];by_cases e:s=k;{subst e;rw[sj i];constructor;{rintro⟨st,g,f⟩;obtain rfl:=mm g;rcases (lu hi x t).1 f with h3 | h3;{exact .inl ⟨row,hk,h3⟩};{exact .inr ⟨rfl,h3⟩}};{rintro(⟨st,g,f⟩ | ⟨_,f⟩);{rw[hk] at g;obtain rfl:=mm g;exact⟨_,rfl,(lu hi x t).2 (.inl f)⟩};{exact⟨_,rfl,(lu hi x t).2 (.inr f)⟩}}};{rw[tj (λj=>e j.symm)];exact⟨.inl,λh=>h.resolve_right λf=>e f.1⟩}
section
variable {g:aj}{I:List (List Lr)}{rows:List (List Int)}
structure z9(g:aj)(I:List (List Lr))(rows:List (List Int))(L:List (List aM)):Prop where
 items:L.map aD=I
 small:∀st∈L,∀x∈st,x.set<2 ^ (g.ae+1)
 snd:∀s x t,qb L s x t->jP g I rows s x t
 pass:∀s x t k r,qb L s x t->bj g x=some ⟨false,r.left⟩->g.rules[k]?=some r->gu g (cD g x)->qb L s ⟨k,0⟩ t
def Gz(g:aj)(rows:List (List Int))(L:List (List aM))(s:Nat)(y:Sym):Prop:=∀f st,pJ g rows s y=some f->L[s]?=some st->∀z t,wo g (cG g st y) z t->qb L f z t
def kG(L:List (List aM))(s:Nat):Prop:=∀x t,¬qb L s x t
theorem z9.it{L:List (List aM)}(h:z9 g I rows L){s:Nat}{x:Lr}{t:Nat}(f:qb L s x t):rZ I s x:=by obtain⟨st,m,i,j,_⟩:=f;refine⟨aD st,?_,tx.2 ⟨_,j,rfl⟩⟩;rw[<-h.items,zm,i];rfl
theorem z9.put{L:List (List aM)}(h:z9 g I rows L){k:Nat}{row l:List aM}(hk:L[k]?=some row)(hi:aD row=aD l)(R:∀x∈l,x.set<2 ^ (g.ae+1))
  (hs:∀x t,lg l x t->jP g I rows k x t) (U:∀x t j r,lg l x t->bj g x=some ⟨false,r.left⟩->g.rules[j]?=some r->gu g (cD g x)->lg l ⟨j,0⟩ t):z9 g I rows (L.set k (bq row l)):=by have o:=(gS hk).1;refine⟨?_,λst p=>?_,λs x t f=>?_,λs x t j r f h1 J P=>?_⟩;{rw[<-h.items,SW,mX];apply Sb;intro i;by_cases e:i=k;{subst e;rw[sj (by simpa using o),zm,hk];rfl};{rw[tj (λe2=>e e2.symm)]}};{rcases Sy p with h1 | h1;{exact h.small st h1};{rw[h1];exact rR (h.small row (gM hk)) R}};{rcases (lE hk hi).1 f with h1 | ⟨rfl,h1⟩;{exact h.snd _ _ _ h1};{exact hs _ _ h1}};{rw[lE hk hi] at f |-;rcases f with C | ⟨rfl,C⟩;{exact .inl (h.pass _ _ _ _ _ C h1 J P)};{exact .inr ⟨rfl,U _ _ _ _ C h1 J P⟩}}
theorem iD(f:Valid g){l:List aM}(i:∀x∈aD l,gf g x){z:Lr}{t:Nat}:lg (bN g l) z t↔wo g l z t:=vf f i
theorem jY{l:List aM}:∀x∈bN g l,x.set<2 ^ (g.ae+1):=λx f=>by obtain⟨z,_,rfl⟩:=tx.1 f;exact iF _ _
theorem xG(t:Valid g)(h:iL g=some (I,rows)){s i:Nat}{y:Sym}{st:List Lr}(j:pJ g rows s y=some i)(hs:I[s]?=some st):I[i]?=some (eT g (iH g st y)):=by obtain⟨C,J⟩:=fP h;obtain⟨R,f,p,r,_,U⟩:=C.goes t j;rw[hs] at p;obtain rfl:=mm p;have l:gp f:=J.all (P:=gp) (iW g _) (λa b _ hb=>by{obtain⟨y,_,o⟩:=tx.1 hb;split at o;{cases o};{obtain rfl:=mm o;exact iW g _}}) i f r;rw[r,ss (λx hx=>(fB x hx).1) l U]
theorem z9.goto(hg:Valid g)(af:iL g=some (I,rows)){L:List (List aM)}(h:z9 g I rows L){s J:Nat}{y:Sym}(f:pJ g rows s y=some J){st row:List aM}(hs:L[s]?=some st)(hk:L[J]?=some row)(ag:¬kG L s) :
  aD row=aD (bN g (cG g st y))/\z9 g I rows (L.set J (bq row (bN g (cG g st y)))):=by have P:I[s]?=some (aD st):=by{rw[<-h.items,zm,hs];rfl};have R:I[J]?=some (aD row):=by{rw[<-h.items,zm,hk];rfl};have hex:=xG hg af f P;rw[R] at hex;have hi:aD row=aD (bN g (cG g st y)):=by{rw[da,eH];exact mm hex};have i:∀x∈aD (cG g st y),gf g x:=λx o=>by{rw[eH] at o;exact(fB x o).1};refine⟨hi,h.put hk hi jY (λx t p=>?_) (λx t j r p h1 h2 h3=>?_)⟩;{rw[iD hg i] at p;have U:∀{x:Lr},gV g (aD (cG g st y)) x->rZ I J x:=λ{x} o=>⟨aD row,R,by rw[hi,da];exact(cJ i).2 o⟩;have l:∃v u,qb L s v u:=by{refine Classical.byContradiction λhn=>ag λx t o=>hn ⟨x,t,o⟩};obtain⟨v,u,aa⟩:=l;induction p with| base h4 h5 _=>{obtain⟨x0,C,h7,rfl⟩:=pO.1 h4;exact .goto (h.snd _ _ _ ⟨st,_,hs,C,h5⟩) ⟨aD st,P,tx.2 ⟨_,C,rfl⟩⟩ h7 f}| v9 h4 h5 C h7=>exact .v9 (h.snd _ _ _ aa) (h.it aa) f (U h4) h5 C h7| pass h4 h5 C h7 _ ih=>{exact .pass ih (U h4) h5 C h7}};{rw[iD hg i] at p |-;exact .pass p.xR h1 h2 h3 p}
theorem z9.zero(J:True):z9 g I rows (I.map λst=>st.map λx=>(⟨x,0⟩:aM))/\∀s,kG (I.map λst=>st.map λx=>(⟨x,0⟩:aM)) s:=by have i:∀s x t,¬qb (I.map λst=>st.map λx=>(⟨x,0⟩:aM)) s x t:=λs x t ⟨st,m,f,P,p⟩=>by{rw[zm] at f;cases C:I[s]? with|none=>{rw[C] at f;cases f}|some j=>{rw[C] at f;obtain rfl:=mm f;obtain⟨x0,_,e⟩:=tx.1 P;simp only[aM.mk.injEq] at e;rw[<-e.2] at p;simp at p}};refine⟨⟨?_,λst l x R=>?_,λs x t o=>absurd o (i s x t),λs x t k r o=>absurd o (i s x t)⟩,i⟩;{rw[Tj];have:(aD ∘ λst:List Lr=>st.map λx=>(⟨x,0⟩:aM))=id:=by{funext st;show (st.map λx=>(⟨x,0⟩:aM)).map (·.item)=st;rw[Tj];exact List.map_id _};rw[this,List.map_id]};{obtain⟨j,_,rfl⟩:=tx.1 l;obtain⟨x0,_,rfl⟩:=tx.1 R;exact SV _}
def Started(g:aj)(L:List (List aM)):Prop:=∀z t,wo g [⟨⟨g.rules.length,0⟩,2 ^ g.ae⟩] z t->qb L 0 z t
theorem pP:∀x∈aD [(⟨⟨g.rules.length,0⟩,2 ^ g.ae⟩:aM)],gf g x:=λx f=>iQ x f
theorem z9.start(J:Valid g)(P:iL g=some (I,rows)){L:List (List aM)}(h:z9 g I rows L){row:List aM}(hk:L[0]?=some row) :
  aD row=aD (ew g)/\z9 g I rows (L.set 0 (bq row (ew g)))/\Started g (L.set 0 (bq row (ew g)))/\qb (L.set 0 (bq row (ew g))) 0 ⟨g.rules.length,0⟩ g.ae:=by obtain⟨hA,hN⟩:=fP P;have l:I[0]?=some (aD row):=by{rw[<-h.items,zm,hk];rfl};have hi:aD row=aD (ew g):=by{have:=hN.first;rw[l] at this;unfold ew;rw[da];exact mm this};have o:∀{x:Lr},gV g (aD [(⟨⟨g.rules.length,0⟩,2 ^ g.ae⟩:aM)]) x->rZ I 0 x:=λ{x} hx=>⟨aD row,l,by rw[hi];unfold ew;rw[da];exact(cJ pP).2 hx⟩;have hI:=h.put hk hi jY (λx t f=>?_) (λx t j r f h1 h2 h3=>?_);{have p:Started g (L.set 0 (bq row (ew g))):=λz t f=>(lE hk hi).2 (.inr ⟨rfl,(iD J pP).2 f⟩);exact⟨hi,hI,p,p _ _ (.base (SH _) (by rw[Nat.testBit_two_pow_self]) (mc _))⟩};{rw[show ew g=bN g _ from rfl,iD J pP] at f;induction f with| base C i _=>{have e:=n0.1 C;simp only[aM.mk.injEq] at e;obtain⟨rfl,rfl⟩:=e;rw[T8] at i;have:g.ae=_:=SU i;rw[<-this];exact .start}| v9 C i R U=>exact .LA (o C) i R U| pass C i R U _ ih=>{exact .pass ih (o C) i R U}};{rw[show ew g=bN g _ from rfl,iD J pP] at f |-;exact .pass f.xR h1 h2 h3 f}
theorem z9.done(hg:Valid g)(ac:iL g=some (I,rows)){L:List (List aM)}(h:z9 g I rows L)(ad:Started g L)(hc:∀s,kG L s\/∀y,Gz g rows L s y):L=jT g I (jP g I rows):=by obtain⟨hA,hN⟩:=fP ac;obtain⟨bo,af,hz⟩:=hA.zero;have o:∀{s:Nat} {x:Lr} {t:Nat},jP g I rows s x t->qb L s x t:=by{intro s x t hl;have ag:∀{s s':Nat} {v:Lr} {u:Nat} {y:Sym},qb L s v u->pJ g rows s y=some s'->∃st,L[s]?=some st/\I[s]?=some (aD st)/\∀z t,wo g (cG g st y) z t->qb L s' z t:=λ{s s' v u y} i U=>by{obtain⟨st,m,f,_,_⟩:=id i;exact⟨st,f,by rw[<-h.items,zm,f];rfl,(hc s).resolve_left (λhz=>hz _ _ i) y s' st U f⟩};induction hl with| start=>exact ad _ _ (.base (SH _) (by rw[Nat.testBit_two_pow_self]) (mc _))| goto i U f r ih=>{obtain⟨st,j,_,C⟩:=ag ih r;obtain⟨J,m,e3,e4,e5⟩:=id ih;rw[j] at e3;obtain rfl:=mm e3;exact C _ _ (.base (pO.2 ⟨_,e4,f,rfl⟩) e5 (i.le hg))}| LA i U f r=>{obtain⟨J,j,C⟩:=i;rw[af] at j;obtain rfl:=mm j;exact ad _ _ (.v9 ((hz _).1 C) U f r)}| v9 i U f r h5 h6 h7 ih=>{obtain⟨st,j,e3,C⟩:=ag ih f;obtain⟨J,e4,e5⟩:=r;have hex:=xG hg ac f e3;rw[e4] at hex;obtain rfl:=mm hex;refine C _ _ (.v9 ?_ h5 h6 h7);rw[eH];exact(cJ λx R=>(fB x R).1).1 e5}| pass i U f r h5 ih=>{exact h.pass _ _ _ _ _ ih f r h5}};apply Sb;intro s;rw[lS];cases hL:L[s]? with|none=>{have:I[s]?=none:=by{rw[<-h.items,zm,hL];rfl};rw[this];rfl}|some st=>{have an:I[s]?=some (aD st):=by{rw[<-h.items,zm,hL];rfl};rw[an];simp only[Si,pr];have ao:(aD st).Nodup:=(hN.all (P:=gp) (iW g _) (λa b _ hb=>by{obtain⟨y,_,hy⟩:=tx.1 hb;split at hy;{cases hy};{obtain rfl:=mm hy;exact iW g _}}) s _ an).Gx;unfold aD at ao |-;rw[Tj];have ap:∀x∈st,x=(⟨x.item,bB (jP g I rows s x.item) (g.ae+1)⟩:aM):=λx R=>by{obtain⟨xi,xm⟩:=x;simp only[aM.mk.injEq,Uk];refine Ar (h.small st (gM hL) _ R) λt=>⟨λht=>?_,λht=>?_⟩;{have:=h.snd s xi t ⟨st,xm,hL,R,ht⟩;exact⟨Nat.lt_succ_of_le (this.le hg),this⟩};{obtain⟨J,m,j,C,e3⟩:=o ht.2;rw[hL] at j;obtain rfl:=mm j;have:m=xm:=by{have bc:=TO.1 ao;refine Classical.byContradiction λbd=>?_;obtain⟨p,hp⟩:=Th R;obtain⟨q,hq⟩:=Th C;have av:=(gS hp).1;have ax:=(gS hq).1;have bv:p≠q:=λe=>by{subst e;rw[hp] at hq;simp only[pr,aM.mk.injEq,Uk] at hq;exact bd hq.symm};have ep:st[p]=⟨xi,xm⟩:=(gS hp).2;have az:st[q]=⟨xi,m⟩:=(gS hq).2;have l:=Sz.1 bc;rcases AT p q with h6 | h6;{exact l p q av ax h6 (by rw[ep,az])};{exact l q p ax av zo (by rw[ep,az])}};rw[<-this];exact e3}};have:st.map (λx=>(⟨x.item,bB (jP g I rows s x.item) (g.ae+1)⟩:aM))=st:=by{(conv=>rhs;rw[<-List.map_id st]);exact SY λx R=>(ap x R).symm};exact this.symm}
end
def iX(g:aj)(st:List aM)(row:List Int)(t:Nat):List (Nat×Nat):=
 (if t<g.ae then (match row[t]? with | some j=>if 0<=j then [(1,j.toNat)] else [] | none=>[]) else [])++
 st.filterMap λlk=>if bj g lk.item=none/\lk.set.testBit t=true then some (if lk.item.aB<g.rules.length then (2,lk.item.aB) else (3,0)) else none
structure JQ where
 act:List (List (Nat×Nat))
 go:List (List Int)
 wk:List (Nat×Nat×List (Nat×Nat))
def dZ(g:aj)(S:List (List aM))(rows:List (List Int)):List (List (List (Nat×Nat))):=(List.range S.length).map λs=>(List.range (g.ae+1)).map λt=>iX g (S.getD s []) (rows.getD s []) t
def eF(s:Nat)(all:List (List (Nat×Nat)))(n:Nat):List (Nat×Nat×List (Nat×Nat)):=(List.range n).filterMap λt=>if 1<(all.getD t []).length then some (s,t,all.getD t []) else none
def Bo(all:List (List (List (Nat×Nat))))(go:List (List Int)):JQ where
 act:=all.map λr=>r.map λl=>l.head?.getD (0,0)
 go:=go
 wk:=((List.range all.length).map λs=>eF s (all.getD s []) (all.getD s []).length).flatten
noncomputable def dx(g:aj)(method:Nat):Option (List (List aM)×List (List Int)):=
 if method=3 then LJ g else (iL g).map λa=>(jT g a.1 (if method=1 then λ_=>sK g else jP g a.1 a.2),a.2)
noncomputable def lI(g:aj)(method:Nat):Option JQ:=(dx g method).map λa=>Bo (dZ g a.1 a.2) (a.2.map (·.drop g.ae))
theorem mQ{g:aj}(i:Valid g){method:Nat}{S:List (List aM)}{rows:List (List Int)}(h:dx g method=some (S,rows)):lD g (S.map aD) rows/\tz g (rZ (S.map aD)) (qb S) (pJ g rows):=by unfold dx at h;split at h;{exact⟨(sL h).1,O5 i h⟩};{cases f:iL g with|none=>{rw[f] at h;cases h}|some a=>{obtain⟨I,j⟩:=a;rw[f] at h;have e:=mm h;simp only[R7] at e;obtain⟨rfl,rfl⟩:=e;rw[vp];refine⟨(fP f).1,?_⟩;split;{exact O9 i f};{exact MX i f}}}
def Ci:Nat×Nat->Act
 | (1,j)=>.shift j
 | (2,k)=>.red k
 | (3,_)=>.acc
 | _=>.no
def M7(T:JQ)(s t:Nat):Act:=Ci ((T.act.getD s []).getD t (0,0))
theorem getD_some{α:Type}{l:List α}{i:Nat}{a d:α}(h:l[i]?=some a):l.getD i d=a:=by rw[qs,h];rfl
theorem Hp{g:aj}{S:List (List aM)}{rows go:List (List Int)}{s t:Nat}:M7 (Bo (dZ g S rows) go) s t=if s<S.length/\t<=g.ae then Ci ((iX g (S.getD s []) (rows.getD s []) t).head?.getD (0,0)) else .no:=by unfold M7 Bo dZ;dsimp only;by_cases hs:s<S.length;{have f : (((List.range S.length).map λs => (List.range (g.ae + 1)).map λt => iX g (S.getD s []) (rows.getD s []) t).map λr => r.map λl => l.head?.getD (0, 0))[s]? = some (((List.range (g.ae+1)).map λt=>iX g (S.getD s []) (rows.getD s []) t).map λl=>l.head?.getD (0,0)):=gR (gR (SQ hs));rw[getD_some f];by_cases i:t<=g.ae;{rw[nw ⟨hs,i⟩];rw[getD_some (gR (gR (SQ (show t<g.ae+1 by omega))))]};{rw[mb (λh=>i h.2),qs,D2 (by simp;omega)];rfl}};{rw[mb (λh=>hs h.1)];have f:∀(L:List (List (Nat×Nat))),L.length=S.length->L.getD s []=[]:=λL j=>by{rw[qs,D2 zo];rfl};rw[f _ (by simp)];rfl}
theorem JU{g:aj}{S:List (List aM)}{rows go:List (List Int)}(h:(Bo (dZ g S rows) go).wk=[]){s t:Nat}(hs:s<S.length)(o:t<=g.ae):(iX g (S.getD s []) (rows.getD s []) t).length<=1:=by unfold Bo at h;dsimp only at h;have i:(dZ g S rows).length=S.length:=by{unfold dZ;simp};have l:(dZ g S rows).getD s []=(List.range (g.ae+1)).map λt=>iX g (S.getD s []) (rows.getD s []) t:=getD_some (gR (SQ hs));rw[List.flatten_eq_nil_iff] at h;have f:=h _ (tx.2 ⟨s,Sr.2 (by rw[i];exact hs),rfl⟩);rw[l] at f;unfold eF at f;rw[List.filterMap_eq_nil_iff] at f;have j:=f t (Sr.2 (by simp;omega));rw[getD_some (gR (SQ (show t<g.ae+1 by omega)))] at j;split at j;{cases j};{omega}
theorem Fw{g:aj}{S:List (List aM)}{rows:List (List Int)}(hA:lD g (S.map aD) rows){s t:Nat}(hs:s<S.length)(ht:t<=g.ae)(p:Nat×Nat) :
  p∈iX g (S.getD s []) (rows.getD s []) t↔(Ci p≠.no/\(p.1=3->p.2=0))/\yO g (rZ (S.map aD)) (qb S) (pJ g rows) s t (Ci p):=by have R:=gE hs;generalize S[s]=st at R;have P:(S.map aD)[s]?=some (aD st):=gR R;obtain⟨row,I⟩:=hA.rowAt P;rw[getD_some R,getD_some I];unfold iX;rw[AI,Ue];have aa:∀j,t<g.ae->(pJ g rows s ⟨true,t⟩=some j↔row[t]?=some (j:Int)):=λj f=>by{unfold pJ;rw[nw (kX.2 (show dr g.ae g.az ⟨true,t⟩ from f)),I];dsimp only;rw[show JP g ⟨true,t⟩=t from rfl];cases hx:row[t]? with|none=>simp|some z=>{dsimp only;split;{rename_i hz;constructor;{intro e;have:=mm e;congr 1;omega};{intro e;have:=mm e;congr 1;omega}};{rename_i hz;constructor;{intro e;cases e};{intro e;have:=mm e;omega}}}};constructor;{rintro(h | ⟨⟨z,m⟩,hz,h⟩);{split at h;{rename_i f;split at h;{rename_i j hj;split at h;{rename_i a2;rw[n0.1 h];refine⟨⟨Act.noConfusion,λe=>by cases e⟩,.shift f ((aa _ f).2 (by rw[hj];congr 1;omega))⟩};{cases h}};{cases h}};{cases h}};{dsimp only at h;split at h;{rename_i hc;obtain⟨ab,an⟩:=hc;have ac:z∈aD st:=tx.2 ⟨_,hz,rfl⟩;have ad:=hA.ok s _ P z ac;have C:rZ (S.map aD) s z:=⟨_,P,ac⟩;have l:qb S s z t:=⟨st,m,R,hz,an⟩;rw[cq,To] at ab;have i:z.dot=(bF g z.aB).length:=Nat.le_antisymm ad.2 ab;obtain⟨Z,zd⟩:=z;dsimp only at i;split at h;{rename_i o;obtain rfl:=mm h;have o:Z<g.rules.length:=o;have hr:=gE o;refine⟨⟨Act.noConfusion,λe=>by cases e⟩,?_⟩;rw[dV hr] at i;subst i;exact .red hr C l};{rename_i o;obtain rfl:=mm h;have ao:Z=g.rules.length:=by{have:=ad.1;dsimp only at this o;omega};subst ao;rw[fD] at i;have i:zd=1:=i;subst i;exact⟨⟨Act.noConfusion,λ_=>rfl⟩,.acc C l⟩}};{cases h}}};{rintro⟨⟨ap,h3⟩,h⟩;obtain⟨a,b⟩:=p;generalize U:Ci (a,b)=q at h ap;cases h with| @shift s' f J=>{left;rw[nw f];rw[aa _ f] at J;rw[J];dsimp only;rw[nw zo];unfold Ci at U;split at U<;>simp_all}| @red k r hr C l=>{right;obtain⟨ar,m,g1,g2,g3⟩:=l;rw[R] at g1;obtain rfl:=mm g1;have hk:=(gS hr).1;refine⟨_,g2,?_⟩;dsimp only;rw[nw ⟨by rw[cq];show (bF g k)[r.right.length]?=none;rw[dV hr];exact D2 (mc _),g3⟩,nw hk];unfold Ci at U;split at U<;>simp_all}| acc C l=>{right;obtain⟨ar,m,g1,g2,g3⟩:=l;rw[R] at g1;obtain rfl:=mm g1;refine⟨_,g2,?_⟩;dsimp only;rw[nw ⟨by rw[cq];show (bF g g.rules.length)[1]?=none;rw[fD];rfl,g3⟩,mb (Tt _)];unfold Ci at U;split at U<;>simp_all}}
theorem MO{g:aj}(hg:Valid g){S:List (List aM)}{rows go:List (List Int)}(U:lD g (S.map aD) rows)(I:∀s x t,qb S s x t->t<=g.ae)(h:(Bo (dZ g S rows) go).wk=[]) :
  CT g (rZ (S.map aD)) (qb S) (pJ g rows) (M7 (Bo (dZ g S rows) go)):=by have o:∀a:Act,a≠.no->∃p,Ci p=a/\(p.1=3->p.2=0):=λa C=>by{cases a with| no=>exact absurd rfl C| shift j=>{exact⟨(1,j),rfl,λe=>by cases e⟩}| red k=>{exact⟨(2,k),rfl,λe=>by cases e⟩}| acc=>{exact⟨(3,0),rfl,λ_=>rfl⟩}};have l:∀{s t:Nat} {a:Act},yO g (rZ (S.map aD)) (qb S) (pJ g rows) s t a->s<S.length/\t<=g.ae/\a≠.no:=λ{s t a} C=>by{have J:∀{x:Lr},rZ (S.map aD) s x->s<S.length:=λ{x} ⟨st,i,_⟩=>by{have:=(gS i).1;rw[sh] at this;exact this};cases C with| shift h1 P=>{obtain⟨st,ad,r,_⟩:=U.goes hg P;have:=(gS r).1;rw[sh] at this;exact⟨this,Sm h1,Act.noConfusion⟩}| red h1 P r=>{exact⟨J P,I _ _ _ r,Act.noConfusion⟩}| acc P r=>{exact⟨J P,I _ _ _ r,Act.noConfusion⟩}};constructor;{intro s t a C;obtain⟨hs,ht,f⟩:=l C;obtain⟨p,rfl,r⟩:=o a f;have hm:=(Fw U hs ht p).2 ⟨⟨f,r⟩,C⟩;have R:=JU h hs ht;rw[Hp,nw ⟨hs,ht⟩];generalize iX g (S.getD s []) (rows.getD s []) t=L at hm R;match L,hm,R with| [q],hm,_=>{rw[n0.1 hm];rfl}| _::_::_,_,R=>{simp at R}};{intro s t f;rw[Hp] at f |-;split at f;{rename_i i;rw[nw i];have hm:=Fw U i.1 i.2;generalize iX g (S.getD s []) (rows.getD s []) t=L at hm f;cases L with|nil=>exact absurd rfl f|cons q L=>{exact((hm q).1 me).2}};{exact absurd rfl f}}
def dS(l:List UInt8):ByteArray:=⟨l.toArray⟩
theorem JZ{a b:List UInt8}(h:dS a=dS b):a=b:=by have:=congrArg (λx:ByteArray=>x.data.toList) h;exact this
theorem iP(a b:List UInt8):dS a++dS b=dS (a++b):=by apply ByteArray.ext;rw[ByteArray.data_append];unfold dS;simp
theorem gC(a:List UInt8):(dS a).size=a.length:=by unfold dS ByteArray.size;simp
def vS(x:UInt8):Prop:=48<=x.toNat/\x.toNat<=57
def fh(n:Nat):List UInt8:=if n<10 then [UInt8.ofNat (48+n)] else [UInt8.ofNat (48+n / 10),UInt8.ofNat (48+n % 10)]
theorem ke{n:Nat}(h:n<100):∀x∈fh n,vS x:=by intro x hx;unfold fh at hx;unfold vS;split at hx;{rw[n0.1 hx,UInt8.toNat_ofNat'];omega};{rcases IN.1 hx with rfl | hx;{rw[UInt8.toNat_ofNat'];omega};{rw[n0.1 hx,UInt8.toNat_ofNat'];omega}}
theorem Hc{a b:Nat}(f:a<256)(g:b<256)(h:UInt8.ofNat a=UInt8.ofNat b):a=b:=by have:=congrArg UInt8.toNat h;rw[UInt8.toNat_ofNat',UInt8.toNat_ofNat'] at this;omega
theorem uE{n m:Nat}(f:n<100)(hm:m<100)(h:fh n=fh m):n=m:=by unfold fh at h;split at h<;>split at h;{have:=Hc zo zo (SG h);omega};{exact absurd (congrArg List.length h) (by simp)};{exact absurd (congrArg List.length h) (by simp)};{have g:=Hc zo zo (SG h);have i:=Hc zo zo (SG (Ua h));omega}
theorem pT:∀{a b r s:List UInt8} {c d:UInt8},(∀x∈a,vS x)->(∀x∈b,vS x)->¬vS c->¬vS d->a++c::r=b++d::s->a=b/\c=d/\r=s
 | [],[],r,s,c,d,_,_,_,_,h=>by{exact⟨rfl,SG h,Ua h⟩}
 | [],y::b,r,s,c,d,_,f,g,_,h=>by{have:=SG h;exact absurd (this▸f y me) g}
 | x::a,[],r,s,c,d,i,_,_,j,h=>by{have:=SG h;exact absurd (this▸i x me) j}
 | x::a,y::b,r,s,c,d,i,f,g,j,h=>by{have o:=SG h;have p:=Ua h;obtain⟨t,C,I⟩:=pT (λz l=>i z (ma _ l)) (λz l=>f z (ma _ l)) g j p;exact⟨by rw[o,t],C,I⟩}
theorem tT{c:UInt8}(h:c=46\/c=32\/c=59):¬vS c:=by rcases h with rfl | rfl | rfl<;>(unfold vS;decide)
def kK(x:Lr):List UInt8:=fh x.aB++46::fh x.dot
def xz(x:aM):List UInt8:=kK x.item++32::fh x.set
def dh{σ:Type}(key:σ->List UInt8):List σ->List UInt8
 | []=>[]
 | x::l=>key x++59::dh key l
theorem mP{σ:Type}(key:σ->List UInt8)(x:σ):∀l:List σ,dh key (l++[x])=dh key l++(key x++[59])
 | []=>by simp[dh]
 | y::l=>by simp[dh,mP key x l]
theorem uC{σ:Type}{key:σ->List UInt8}{P:σ->Prop}(h:∀x y r s,P x->P y->key x++59::r=key y++59::s->x=y/\r=s):∀{l m:List σ},(∀x∈l,P x)->(∀x∈m,P x)->dh key l=dh key m->l=m
 | [],[],_,_,_=>rfl
 | [],y::m,_,_,e=>by exact absurd (congrArg List.length e) (by simp[dh])
 | x::l,[],_,_,e=>by exact absurd (congrArg List.length e) (by simp[dh])
 | x::l,y::m,g,hm,e=>by{obtain⟨i,j⟩:=h x y _ _ (g x me) (hm y me) e;rw[i,uC h (λz f=>g z (ma _ f)) (λz f=>hm z (ma _ f)) j]}
theorem Ap(x y:Lr)(c:UInt8)(r s:List UInt8)(i:c=46\/c=32\/c=59)(f:x.aB<100/\x.dot<100)(g:y.aB<100/\y.dot<100)(h:kK x++c::r=kK y++c::s):x=y/\r=s:=by unfold kK at h;rw[AS,AS] at h;have h:fh x.aB++46::(fh x.dot++c::r)=fh y.aB++46::(fh y.dot++c::s):=h;obtain⟨o,_,p⟩:=pT (ke f.1) (ke g.1) (tT (.inl rfl)) (tT (.inl rfl)) h;obtain⟨t,_,C⟩:=pT (ke f.2) (ke g.2) (tT i) (tT i) p;have j:=uE f.1 g.1 o;have l:=uE f.2 g.2 t;obtain⟨a,b⟩:=x;obtain⟨I,b'⟩:=y;simp only at j l;subst j l;exact⟨rfl,C⟩
theorem Ja{l m:List Lr}(f:∀x∈l,x.aB<100/\x.dot<100)(hm:∀x∈m,x.aB<100/\x.dot<100)(h:dh kK l=dh kK m):l=m:=
 uC (P:=λx:Lr=>x.aB<100/\x.dot<100) (λx y r s g i e=>Ap x y 59 r s (.inr (.inr rfl)) g i e) f hm h
theorem Jn{l m:List aM}(o:∀x∈l,(x.item.aB<100/\x.item.dot<100)/\x.set<100)(hm:∀x∈m,(x.item.aB<100/\x.item.dot<100)/\x.set<100)(h:dh xz l=dh xz m):l=m:=
 uC (P:=λx:aM=>(x.item.aB<100/\x.item.dot<100)/\x.set<100) (λx y r s f g e=>by{unfold xz at e;rw[AS,AS] at e;have e:kK x.item++32::(fh x.set++59::r)=kK y.item++32::(fh y.set++59::s):=e;obtain⟨i,p⟩:=Ap x.item y.item 32 _ _ (.inr (.inl rfl)) f.1 g.1 e;obtain⟨t,_,C⟩:=pT (ke f.2) (ke g.2) (tT (.inr (.inr rfl))) (tT (.inr (.inr rfl))) p;have j:=uE f.2 g.2 t;obtain⟨a,b⟩:=x;obtain⟨I,b'⟩:=y;simp only at i j;subst i j;exact⟨rfl,C⟩}) o hm h
theorem bytes_beq(x y:ByteArray):(x==y)=true↔x=y:=by constructor;{intro h;obtain⟨x⟩:=x;obtain⟨y⟩:=y;have:(x==y)=true:=h;congr 1;exact eq_of_beq this};{rintro rfl;obtain⟨x⟩:=x;show (x==x)=true;exact beq_self_eq_true x}
theorem HR:CC.g9 9=some .string:=kN hT (r:=⟨9,.string,1,16,.string ByteArray.empty⟩) rfl rfl
def zg:oW CC 9 (List UInt8) where
 key:=λl=>.string (dS l)
 ok:=λl=>by
  unfold eA;simp only[HR];rfl
 eq:=λa b=>by
  have h:qv CC 8 9 (.string (dS a)) (.string (dS b))=some (dS a==dS b):=by
   unfold qv;simp only[HR];rfl
  by_cases e:a=b
  ·subst e;exact .inl ⟨rfl,by rw[h,(bytes_beq _ _).2 rfl]⟩
  ·have f:(dS a==dS b)=false:=by
    cases g:(dS a==dS b) with
    | false=>rfl
    | true=>exact absurd (JZ ((bytes_beq _ _).1 g)) e
   exact .inr ⟨e,by rw[h,f]⟩
end Go.Proofs.D
set_option linter.unusedVariables false
set_option maxRecDepth 20000
set_option maxHeartbeats 0
open Go Go.Abs Go.Proofs Go.Proofs.D
namespace Go.Abs
section
variable {C:Ctx}{T:RT}{n:Nat}{k:bY}{F:aw}{own:bH}{ops rest:List Oper}{o:Oper}{Q:bY->aw->bH->List Rec->Prop}
theorem WT.Em(hT:aP C T=true){t:TypeId}{J lo hi:Operand}{s:ByteArray}{j m:Nat}{U I:IntKind}{r:Row}(a b:Nat->Nat)(f:Nat->List UInt8)(g:o.op=.slice t J (some lo) (some hi) none)(hw:aH ops k o=some true){dst:Nat}(i:o.dst=some dst)(hn:Nat.blt dst n=true)
  (P:aW C k J=some (.string s)) (hl:aW C k lo=some (.int U (a j:Nat))) (hh:aW C k hi=some (.int I (b j:Nat))) (hr:rowOf T t=some r) (hd:r.d=.string) (hj:j<m)
  (p:((List.range m).all λj=>Nat.ble (a j) (b j)&&Nat.ble (b j) s.size&&((s.extract (a j) (b j)).data.toList==f j))=true)
  (h:WT C n ops rest ((dst,.string ⟨(f j).toArray⟩)::k) F own (λk2 F2 own2 rs=>Q k2 F2 own2 (⟨F,own,F,own,[]⟩::rs))):WT C n ops (o::rest) k F own Q:=by have R:=SK.1 p j (Sr.2 hj);simp only[ti,S6] at R;obtain⟨⟨h2,h3⟩,h4⟩:=R;have h5:s.extract (a j) (b j)=⟨(f j).toArray⟩:=by{apply ByteArray.ext;rw[<-h4]};refine WT.still (l:=[]) hw (by rw[g];simp only[bg,P]) (λh0 _=>?_) (by rw[i,aA hn];exact h);rw[g];have h6:lO (aW C k) none=some none:=rfl;simp only[aQ,P,lO,hl,hh,gO,kN hT hr hd,dc,Si];rw[nw (TF _),nw (TF _),TN,TN];simp only[h2,h3,Tk,xf,h5,Si]
theorem WT.uv{t ty:TypeId}{i j:Operand}{a b:ByteArray}(f:o.op=.binOp .add t i j ty)(hw:aH ops k o=some true){dst:Nat}(g:o.dst=some dst)(I:Nat.blt dst n=true)
  (p:aW C k i=some (.string a)) (r:aW C k j=some (.string b)) (hs:a.size+b.size<=9223372036854775807)
  (h:WT C n ops rest ((dst,.string (a++b))::k) F own (λk2 J own2 rs=>Q k2 J own2 (⟨F,own,F,own,[]⟩::rs))):WT C n ops (o::rest) k F own Q:=by refine WT.still (l:=[]) hw (by rw[f];simp only[bg,p,r];rfl) (λR _=>?_) (by rw[g,aA I];exact h);rw[f];have P:Nat.ble (a.size+b.size) 9223372036854775807=true:=RZ hs;simp only[aQ,p,r,jL,mR,P,xf,Si]
end
end Go.Abs
namespace Go.Proofs.D
theorem PE:BinOp.mul≠.shl/\BinOp.mul≠.shr:=⟨λh=>(by cases h),λh=>(by cases h)⟩
theorem NX{i:Nat}(h:2*i<=9223372036854775807):dO .mul .i64 (i:Int) 2=some (.int .i64 ((2*i:Nat):Int)):=by simp only[dO];rw[wrap64 ⟨by omega,by omega⟩];congr 2;omega
theorem Hk(F:aw)(i:Nat)(hi:i<100):Abs.Spec CC 242 [.int .i64 i] F [] λ_ v o=>o=[]/\v=.string (dS (fh i)):=by refine Abs.Spec.fn (n:=15) Tryz.func242 rfl rfl λown=>?_;refine ai ?_;refine AW.cond Z (λh=>?_) (λh=>?_);{have h:i<10:=by{simp at h;omega};refine ai ?_;refine WT.Em hT (j:=i) (m:=10) (λj=>j) (λj=>j+1) fh Z Z Z Z Z Z Z Z Z h (by decide +kernel) (ai ?_);exact AW.ret ⟨_,[],⟨_,_,rfl,rfl,rfl⟩,bw,rfl,rfl⟩};{have h:¬i<10:=by{simp at h;omega};refine ai ?_;refine WT.GG (v:=.int .i64 ((2*i:Nat):Int)) Z Z Z Z Z Z PE (NX zo) (ai ?_);refine WT.GG (v:=.int .i64 ((2*i:Nat):Int)) Z Z Z Z Z Z PE (NX zo) (ai ?_);refine WT.Em hT (j:=i) (m:=100) (λj=>2*j) (λj=>2*j+2) (λj=>[UInt8.ofNat (48+j / 10),UInt8.ofNat (48+j % 10)]) Z Z Z Z Z Z Z Z Z hi (by decide +kernel) (ai ?_);refine AW.ret ⟨_,[],⟨_,_,rfl,rfl,rfl⟩,bw,rfl,?_⟩;unfold fh;rw[mb h];rfl}
theorem xU(F:aw)(i:Nat)(hi:i<100):Abs.Spec CC 220 [.int .i64 i,.int .i64 10] F [] λ_ v o=>o=[]/\v=.string (dS (fh i)):=by refine Abs.Spec.fn (n:=54) Tryz.func220 rfl rfl λown=>?_;refine ai ?_;refine AW.cond Z (λ_=>?_) (λh=>(by cases h));refine ai ?_;refine AW.cond Z (λ_=>?_) (λh=>(by simp at h;omega));refine ai ?_;refine WT.aX Tryz.func242 Z Z Z Z Z Z (Hk _ i hi) (λv f=>?_);subst f;refine ai ?_;exact AW.ret ⟨_,[],⟨_,_,rfl,rfl,rfl⟩,bw,rfl,rfl⟩
theorem Gp(F:aw)(i:Nat)(hi:i<100):Abs.Spec CC 191 [.int .i64 i] F [] λ_ v o=>o=[]/\v=.string (dS (fh i)):=by refine Abs.Spec.fn (n:=5) Tryz.func191 rfl rfl λown=>?_;refine ai ?_;refine WT.aX Tryz.func220 Z Z Z Z Z Z (xU _ i hi) (λv f=>?_);subst f;refine ai ?_;exact AW.ret ⟨_,[],⟨_,_,rfl,rfl,rfl⟩,bw,rfl,rfl⟩
theorem uy(F:aw)(i:Nat)(hi:i<100):Abs.Spec CC 149 [.int .i64 i] F [] λ_ v o=>o=[]/\v=.string (dS (fh i)):=by refine Abs.Spec.fn (n:=5) Tryz.func149 rfl rfl λown=>?_;refine ai ?_;refine WT.aX Tryz.func191 Z Z Z Z Z Z (Gp _ i hi) (λv f=>?_);subst f;refine ai ?_;exact AW.ret ⟨_,[],⟨_,_,rfl,rfl,rfl⟩,bw,rfl,rfl⟩
theorem j6(i:Nat):(fh i).length<=2:=by unfold fh;split<;>simp
theorem wW(F:aw)(x:Lr)(g:x.aB<100/\x.dot<100):Abs.Spec CC 148 [.agg ⟨[.int .i64 x.aB,.int .i64 x.dot]⟩] F [] λ_ v o=>o=[]/\v=.string (dS (kK x)):=by have j:=j6 x.aB;have l:=j6 x.dot;refine Abs.Spec.fn (n:=11) Tryz.func148 rfl rfl λown=>?_;refine AW.seq (AW.fj ?_);refine WT.bZ Z Z Z Z Z Z (λi1 i=>?_);refine ai ?_;refine AW.draw (ps:=[(3,6),(5,2)]) Z Z (ai ?_);refine WT.aX Tryz.func149 Z Z Z Z Z Z (uy _ x.aB g.1) (λv f=>?_);subst f;refine WT.uv Z Z Z Z Z Z (by rw[gC];show _+1<=_;omega) (ai ?_);refine WT.aX Tryz.func149 Z Z Z Z Z Z (uy _ x.dot g.2) (λv f=>?_);subst f;refine WT.uv Z Z Z Z Z Z (by rw[show (dS (fh x.aB)++{ data:=#[46] }:ByteArray)=dS (fh x.aB)++dS [46] from rfl,iP,gC,gC,q0];show _+1+_<=_;omega) (ai ?_);refine⟨k9,?_⟩;refine AW.ret ⟨_,[],⟨_,_,rfl,rfl,rfl⟩,bw,rfl,?_⟩;show Value.string (dS (fh x.aB)++dS [46]++dS (fh x.dot))=_;rw[iP,iP,AS];rfl
theorem ue(x:Lr):(kK x).length<=5:=by have f:=j6 x.aB;have g:=j6 x.dot;unfold kK;simp only[q0,If];omega
def Nc(g:aj)(x:Lr):Prop:=x.aB<=g.rules.length/\x.dot<=(if x.aB=g.rules.length then 1 else ((g.rules[x.aB]?).map (·.right.length)).getD 0)
theorem gV.ok{g:aj}{l:List Lr}(f:∀x∈l,Nc g x){x:Lr}(h:gV g l x):Nc g x:=by induction h with| base h=>exact f _ h| more _ _ h _ _=>{exact⟨Sm (gS h).1,BY _⟩}
theorem BG(F:aw)(g:aj)(hg:Valid g){a:Option Addr}{m c:Nat}(hr:a7 cO F a m c g.rules){b:Option Addr}{n d:Nat}{l:List Lr}(hl:a7 gg F b n d l)(hn:n<=1000)(I:∀x∈l,Nc g x) :
  Abs.Spec CC 189 [.agg ⟨ak g a m c⟩,.slice b n d] F [] λF' v o=>o=[]/\∃a' m' c' zs,v=.tuple ⟨[.slice a' m' c',.int .i64 0]⟩/\a7 gg F' a' m' c' zs/\m'<=n+m/\gp zs/\∀z,z∈zs↔gV g l z:=by have ae:=hr.len;have ax:=hl.len;have az:=hg.range.rules;have J:∀r∈g.rules,r.right.length<=100:=λr h=>by{have:=(hg.right r h).2.1;omega};unfold ak;refine Abs.Spec.fn (n:=50) Tryz.func189 rfl rfl λown=>?_;refine AW.seq (AW.fj ?_);refine WT.bZ Z Z Z Z Z Z (λi2 a0=>?_);refine aq ?_;refine WT.aX Tryz.func85 Z Z Z Z Z Z (je _ g hg.range hr) (λv C=>?_);rw[hg.ui] at C;subst C;refine aq ?_;refine AW.cond Z (λh=>(by cases h)) (λ_=>?_);refine aq ?_;refine AW.range (S:=Unit) (λ_=>[]) (λ_=>_) (λj _ G=>True) n () Z Z Z Z Z Z Z Z Z zo Z Z (λ_=>rfl) (λ_=>rfl) sM oR trivial ?_ ?_;{intro j _ F1 f hj _;have i:=hr.mono f;have t:=hl.mono f;refine aq ?_;refine WT.bk hT t Z Z Z Z Z Z Z Z Z zo (λx af b1 off ro cs lx hb a3 P=>?_);obtain rfl:lx=_:=P;obtain⟨a4,R⟩:=I x (gM af);refine aq ?_;refine WT.aG hT Z Z Z Z Z Z (λi8 a5=>?_);refine aq ?_;refine AW.draw (ps:=[(18,22)]) Z Z (aq ?_);refine WT.split 23 Z (λh=>(by simp at h;omega)) (λ_=>?_);refine WT.split 31 Z (λh=>(by simp at h;omega)) (λ_=>?_);refine aq ?_;refine WT.split 36 Z (λh=>(by simp at h;omega)) (λ_=>?_);refine WT.aX Tryz.func144 Z Z Z Z Z Z (Cn _ g J i zo x.aB zo) (λv C=>?_);obtain⟨rb,rn,rd,rfl,ag⟩:=C;rw[<-ae] at R;rw[<-ag] at R;refine aq ?_;refine⟨k9,?_⟩;refine AW.cond Z (λh=>(by simp at h;omega)) (λ_=>?_);refine aq ?_;exact⟨(),sM,c7,trivial⟩};{intro _ F1 f _;have i:=hr.mono f;have t:=hl.mono f;refine aq ?_;refine WT.bO Tryz.func152 Z Z Z Z Z Z (nf _ g J i zo t hn (λx hx=>(I x hx).1)) (λF2 v ba C=>?_);obtain⟨a8,m8,c8,zs,rfl,hz,al,an,U⟩:=C;refine aq ?_;exact AW.ret ⟨_,[],⟨_,_,rfl,⟨_,_,rfl,rfl,rfl⟩,rfl⟩,bw,rfl,a8,m8,c8,zs,rfl,hz,al,an,U⟩}
structure RU where
 xs:List Lr
 a:Option Addr
 c:Nat
 B:List (Nat×aC)
structure Q7 where
 a:Option Addr
 m:Nat
 c:Nat
 B:List (Nat×aC)
theorem Mq{g:aj}{j:Nat}(h:j<g.ae):(cE g).take (j+1)=(cE g).take j++[⟨true,j⟩]:=by have:(cE g)[j]?=some ⟨true,j⟩:=oe (y:=⟨true,j⟩) h;rw[yf,this];rfl
theorem M4{g:aj}{j:Nat}(h:j<g.az):(cE g).take (g.ae+j+1)=(cE g).take (g.ae+j)++[⟨false,j⟩]:=by have:(cE g)[j+g.ae]?=some ⟨false,j⟩:=oe (y:=⟨false,j⟩) h;rw[U1] at this;rw[yf,this];rfl
theorem su(F:aw)(g:aj)(hg:Valid g){a:Option Addr}{m c:Nat} :
  Abs.Spec CC 146 [.agg ⟨ak g a m c⟩] F [] λF' v o=>o=[]/\∃a' n' c',v=.slice a' n' c'/\a7 gW F' a' n' c' (cE g):=by have ao:=hg.range.ae;have ap:=hg.range.az;unfold ak;refine Abs.Spec.fn (n:=29) Tryz.func146 rfl rfl λown=>?_;refine AW.seq (AW.fj ?_);refine WT.bZ Z Z Z Z Z Z (λi1 ar=>?_);refine ai ?_;refine AW.range (S:=Q7) (λs=>[(3,.slice s.a s.m s.c)]) (λs=>s.B::[(i1,.cells false [.int .i64 g.ae,.int .i64 g.az,.int .i64 g.start,.slice a m c])]::own) (λj s G=>cu gW G s.a s.m s.c s.B ((cE g).take j)) g.ae ⟨none,0,0,[]⟩ Z Z Z Z Z Z Z Z Z zo rfl rfl (λ_=>rfl) (λ_=>rfl) sM (ah.flat (ri _)) (cu.dF _ _) ?_ ?_;{intro j s F1 r t i;have l:=i.len;rw[R5,ez] at l;refine ai ?_;refine WT.aX Tryz.func115 Z Z Z Z Z Z (Na _ _) (λv C=>?_);subst C;refine WT.aS hT Z Z Z Z Z Z Z Z Z Z Z Z Z Z (λi9 I=>?_);refine WT.bu (R:=gW) (ys:=[(⟨true,j⟩:Sym)]) hT 1 i Z (λ_=>rfl) Z Z Z Z Z Z Z Z Z Z Z (λh0 J=>aT hT J 0 Z Z Z Z) (aF.single (R:=gW) (x:=⟨true,j⟩) rfl) Z (by decide) gT (λP U B3 f=>?_);refine ai ?_;exact⟨⟨P,s.m+1,U,B3⟩,sM,c7,by show cu gW _ _ _ _ _ ((cE g).take (j+1));rw[Mq t];exact f⟩};{intro s F1 r i;refine ai ?_;refine AW.range (S:=Q7) (λs=>[(3,.slice s.a s.m s.c)]) (λs=>s.B::[(i1,.cells false [.int .i64 g.ae,.int .i64 g.az,.int .i64 g.start,.slice a m c])]::own) (λj s G=>cu gW G s.a s.m s.c s.B ((cE g).take (g.ae+j))) g.az ⟨s.a,s.m,s.c,s.B⟩ Z Z Z Z Z Z Z Z Z zo rfl rfl (λ_=>rfl) (λ_=>rfl) sM oR i ?_ ?_;{intro j s F2 ab t i;have l:=i.len;rw[R5,ez] at l;refine ai ?_;refine WT.aX Tryz.func84 Z Z Z Z Z Z (sD _ _) (λv C=>?_);subst C;refine WT.aS hT Z Z Z Z Z Z Z Z Z Z Z Z Z Z (λi9 I=>?_);refine WT.bu (R:=gW) (ys:=[(⟨false,j⟩:Sym)]) hT 1 i Z (λ_=>rfl) Z Z Z Z Z Z Z Z Z Z Z (λh0 J=>aT hT J 0 Z Z Z Z) (aF.single (R:=gW) (x:=⟨false,j⟩) rfl) Z (by decide) gT (λP U B3 f=>?_);refine ai ?_;exact⟨⟨P,s.m+1,U,B3⟩,sM,c7,by show cu gW _ _ _ _ _ ((cE g).take (g.ae+j+1));rw[M4 t];exact f⟩};{intro s F2 ab i;rw[pf (by rw[ez];exact mc _)] at i;refine AW.ay 0 Z Z (λF3 ac f=>?_);refine ai ?_;exact AW.ret ⟨_,[],⟨_,_,rfl,rfl,rfl⟩,bw,rfl,_,_,_,rfl,i.frozen ac f⟩}}
noncomputable def Hw(g:aj)(st:List Lr)(y:Sym):Option (List Lr):=if iH g st y=[] then none else some (eT g (iH g st y))
theorem Ix{g:aj}{st:List Lr}{y:Sym}{j:Nat}{x:Lr}(h:st[j]?=some x):iH g (st.take (j+1)) y=iH g (st.take j) y++(if bj g x=some y then [⟨x.aB,x.dot+1⟩] else []):=by unfold iH;rw[yf,h,Ut];congr 1;simp only[Ui,T9,List.filterMap_nil];by_cases e:bj g x=some y;{rw[nw e,nw e]};{rw[mb e,mb e]}
structure Rp where
 a:Option Addr
 m:Nat
 c:Nat
 B:List (Nat×aC)
 l:List Lr
theorem Ha(F:aw)(g:aj)(hg:Valid g){ig:Nat}{ro:Bool}{a:Option Addr}{m c:Nat}(hi:F ig=some (.cells ro (ak g a m c)))(hr:a7 cO F a m c g.rules){b:Option Addr}{n d:Nat}{st:List Lr}(al:a7 gg F b n d st)(hn:n<=1000)(a9:∀x∈st,gf g x)(y:Sym)(hy:dr g.ae g.az y) :
  Abs.Spec CC 153 [.slice b n d,.agg ⟨[.bool y.term,.int .i64 y.n]⟩,.pointer (some ⟨ig,0,none⟩)] F [] λF' v o=>o=[]/\∃a' n' c' z s,v=.tuple ⟨[.slice a' n' c',.bool z]⟩/\a7 gg F' a' n' c' s/\Hw g st y=if z=true then some s else none:=by have b2:=hg.range.rules;have b3:=hr.len;have b4:=al.len;have I:∀r∈g.rules,r.right.length<=100:=λr h=>by{have:=(hg.right r h).2.1;omega};unfold ak at hi;obtain⟨J,P⟩:=y;refine Abs.Spec.fn (n:=46) Tryz.func153 rfl rfl λown=>?_;refine AW.seq (AW.fj ?_);refine WT.bZ Z Z Z Z Z Z (λi4 b5=>?_);refine ai ?_;refine AW.range (S:=Rp) (λs=>[(7,.slice s.a s.m s.c)]) (λs=>s.B::[(i4,.cells false [.bool J,.int .i64 P])]::own) (λj s G=>cu gg G s.a s.m s.c s.B s.l/\s.l=iH g (st.take j) ⟨J,P⟩/\s.m<=j) n ⟨none,0,0,[],[]⟩ Z Z Z Z Z Z Z Z Z zo rfl rfl (λ_=>rfl) (λ_=>rfl) sM (ah.flat (ri _)) ⟨cu.dF _ _,rfl,mc _⟩ ?_ ?_;{intro j s F1 i hj hP;obtain⟨U,f,bb⟩:=hP;have an:=al.mono i;have bc:=hr.mono i;have ao:=i _ _ hi;refine ai ?_;refine WT.bk hT an Z Z Z Z Z Z Z Z Z zo (λx ap b1 off b6 cs lx b8 b9 ar=>?_);obtain rfl:lx=_:=ar;have av:=a9 x (gM ap);have aa:=Ix (g:=g) (y:=⟨J,P⟩) ap;refine ai ?_;refine WT.aG hT Z Z Z Z Z Z (λi9 ca=>?_);refine ai ?_;have ax:=iJ F1 g I bc zo x (by have:=av.1;omega);unfold ak at ax;refine WT.aX Tryz.func150 Z Z Z Z Z Z ax (λv hv=>?_);obtain⟨z,bo,rfl,t,ab⟩:=hv;obtain⟨zt,zn⟩:=z;refine ai ?_;refine WT.aG hT Z Z Z Z Z Z (λi10 bv=>?_);refine ai ?_;have C:=U.len;refine WT.split 25 Z (λac=>?_) (λac=>?_);{have t:=t ac;refine ai ?_;refine AW.cond Z (λh=>?_) (λh=>?_);{have e:(⟨zt,zn⟩:Sym)=⟨J,P⟩:=by{simp only[Uc,ti,S6] at h;obtain⟨h1,h2⟩:=h;subst h1;congr 1;omega};rw[e] at t;have ch:x.dot<=100:=by{have:=av.2;have h2:(bF g x.aB).length<=100:=by{unfold bF;split;{simp};{cases hq:g.rules[x.aB]? with|none=>simp|some r=>{exact I r (gM hq)}}};omega};refine ai ?_;refine WT.aS hT Z Z Z Z Z Z Z Z Z Z Z Z Z Z (λi37 bx=>?_);refine WT.bu (R:=gg) (ys:=[(⟨x.aB,x.dot+1⟩:Lr)]) hT 3 U Z (λ_=>rfl) Z Z Z Z Z Z Z Z Z Z Z (λh0 s0=>aT hT s0 0 Z Z Z Z) (aF.single (R:=gg) (x:=⟨x.aB,x.dot+1⟩) rfl) Z (by decide) gT (λa3 c3 B3 be=>?_);refine ai ?_;refine⟨⟨a3,s.m+1,c3,B3,s.l++[⟨x.aB,x.dot+1⟩]⟩,sM,c7,be,?_,by dsimp only;omega⟩;show s.l++_=_;rw[aa,nw t,f]};{have ad:¬bj g x=some ⟨J,P⟩:=λe=>by{rw[t] at e;have e:=mm e;simp only[Sym.mk.injEq] at e;rw[e.1,e.2] at h;simp at h};refine ai ?_;refine⟨s,sM,c7,U,?_,by omega⟩;rw[aa,mb ad,R3];exact f}};{have ab:=ab ac;have ad:¬bj g x=some ⟨J,P⟩:=λe=>by{rw[ab] at e;cases e};refine ai ?_;refine AW.cond Z (λh=>(by cases h)) (λ_=>?_);refine ai ?_;refine⟨s,sM,c7,U,?_,by omega⟩;rw[aa,mb ad,R3];exact f}};{intro s F1 i hP;obtain⟨U,f,bb⟩:=hP;rw[pf zo] at f;have C:=U.len;have ao:=i _ _ hi;refine AW.ay 0 Z Z (λF2 af bf=>?_);have hx:=U.frozen af bf;have c0:=af _ _ ao;have a0:∀z∈s.l,z.aB<=g.rules.length:=λz hz=>by{rw[f] at hz;exact(fB z hz).1.1};refine ai ?_;have a1:=nf F2 g I ((hr.mono i).mono af) zo hx zo a0;unfold ak at a1;refine WT.bO Tryz.func152 Z Z Z Z Z Z a1 (λF3 v c1 hv=>?_);obtain⟨a8,m8,c8,zs,rfl,hz,c6,a2,a4⟩:=hv;refine ai ?_;refine AW.ret ⟨_,[],⟨_,_,rfl,⟨_,_,rfl,rfl,rfl⟩,rfl⟩,bw,rfl,a8,m8,c8,_,zs,rfl,hz,?_⟩;unfold Hw;by_cases e:iH g st ⟨J,P⟩=[];{rw[nw e,mb];rw[f,e] at C;have:s.m=0:=C;simp[this]};{rw[mb e,nw];{congr 1;refine(ss (λz hz=>(fB z hz).1) a2 λz=>?_).symm;rw[a4,f]};{have:0<s.m:=by{rw[C,f];exact List.length_pos_iff.2 e};exact Us zo}}}
end Go.Proofs.D
set_option linter.unusedVariables false
set_option maxRecDepth 20000
set_option maxHeartbeats 0
open Go Go.Abs Go.Proofs Go.Proofs.D
namespace Go.Abs
section
variable {C:Ctx}{T:RT}{n:Nat}{k:bY}{F:aw}{own:bH}{ops rest:List Oper}{o:Oper}{Q:bY->aw->bH->List Rec->Prop}{α:Type}{R:Ty α}
theorem WT.Qj(hT:aP C T=true)(p:Nat){t:TypeId}{ao:Operand}{a:Option Addr}{m c j b:Nat}{B:List (Nat×aC)}{xs:List α}{x:α}{r:Row}(hv:er R F a m c B xs)(ha:a=some ⟨b,0,none⟩)(hj:xs[j]?=some x)(U:o.op=.load t ao)(hw:aH ops k o=some true){dst:Nat}(g:o.dst=some dst)(hn:Nat.blt dst n=true)
  (I:aW C k ao=some (.pointer (some ⟨b,j*R.size,none⟩))) (hp:own[p]?=some B) (hr:rowOf T t=some r) (hd:r.d.agg=false) (hs:R.size=1)
  (h:∀v,R.rel F [v] x->WT C n ops rest ((dst,v)::k) F own (λk2 F2 own2 rs=>Q k2 F2 own2 (⟨F,own,F,own,[b]⟩::rs))):WT C n ops (o::rest) k F own Q:=by obtain⟨i,cs,f,rfl,h3,h4⟩:=hv.at_ hj;rw[ha] at f;injection f with f;injection f with f;subst f;obtain⟨l,J,P⟩:=h3.at j x hj;have hl:=R.len _ _ _ P;rw[show R.size=1 from hs] at I J hl;match l,hl,J,P with| [v],_,J,P=>{exact WT.s4 p U hw I hp me (y6 hT hr hd (AA J rfl)) (by rw[g,aA hn];exact h v P)}
end
end Go.Abs
namespace Go.Proofs.D
theorem vg{α:Type}[DecidableEq α]:∀(os:List (Option α)) (f:List α) (o:Option α),cB f (os++[o])=((dC (cB f os).1 o).1,(cB f os).2++[(dC (cB f os).1 o).2])
 | [],f,o=>rfl
 | x::os,f,o=>by{have g:=vg os (dC f x).1 o;show ((cB (dC f x).1 (os++[o])).1,(dC f x).2::(cB (dC f x).1 (os++[o])).2)=_;rw[g];rfl}
theorem EL{α:Type}[DecidableEq α](f:List α)(a:List (Option α)):∀(b:List (Option α)),(cB f a).1.length<=(cB f (a++b)).1.length:=by intro b;induction a generalizing f with|nil=>{obtain⟨⟨ex,h⟩,_⟩:=pb b f;show f.length<=(cB f b).1.length;rw[h,q0];omega}|cons o a g=>{exact g (dC f o).1}
def zT{α:Type}[DecidableEq α](s:α)(S:List α):Nat:=S.idxOf s
theorem LX{α:Type}[DecidableEq α]{s:α}{S T:List α}(h:s∈S):zT s (S++T)=zT s S:=by unfold zT;rw[List.idxOf_append,nw h]
theorem L7{α:Type}[DecidableEq α]{s:α}{S:List α}(h:s∉S):zT s (S++[s])=S.length:=by unfold zT;rw[List.idxOf_append,mb h];simp
def tO{σ:Type}[DecidableEq σ](key:σ->List UInt8)(P:List σ->Prop)(es:bS (List UInt8))(S:List (List σ)):Prop:=∀s,P s->Abs.look es (dh key s)=if s∈S then some (.int .i64 (zT s S:Nat)) else none
theorem tO.add{σ:Type}[DecidableEq σ]{key:σ->List UInt8}{P:List σ->Prop}{es:bS (List UInt8)}{S:List (List σ)}(h:tO key P es S)(g:∀s f,P s->P f->dh key s=dh key f->s=f){s:List σ}(hs:P s)(j:s∉S) :
  tO key P (cy es (dh key s) (.int .i64 (S.length:Nat))) (S++[s]):=by intro f i;rw[fR];by_cases e:f=s;{subst e;rw[nw rfl,nw (R8 _ (SH _))];rw[L7 j]};{rw[mb (λl=>e (g f s i hs l)),h f i];by_cases hm:f∈S;{rw[nw hm,nw (IT _ hm)];rw[LX hm]};{rw[mb hm,mb];intro h2;rcases AI.1 h2 with h2 | h2;{exact hm h2};{exact e (n0.1 h2)}}}
theorem tO.one{σ:Type}[DecidableEq σ]{key:σ->List UInt8}{P:List σ->Prop}(f:∀s g,P s->P g->dh key s=dh key g->s=g){s:List σ}(hs:P s):tO key P (cy [] (dh key s) (.int .i64 0)) [s]:=
 tO.add (S:=[]) (es:=[]) (λg _=>by simp[Abs.look]) f hs (by simp)
theorem H3{α:Type}[DecidableEq α]{most f i:Nat}{step:α->List (Option α)}{g:List α}(rows:List (List Int))(_:Unit){st:α}(h:g[i]?=some st) :
  oj most step (f+1) i g rows=if (cB g (step st)).1.length<=most then oj most step f (i+1) (cB g (step st)).1 (rows++[(cB g (step st)).2]) else none:=by (conv=>lhs;unfold oj);rw[h]
theorem PL{p:Prop} (h:p:=by{subst hv;refine WT.uv Z Z Z Z Z Z (by rw[gC];show _+1<=_;omega) ?_;refine WT.uv Z Z Z Z Z Z (by rw[show (dS (key x)++{ data:=#[59] }:ByteArray)=dS (key x++[59]) from iP _ [59],gC,gC,hP,q0];show _+(_+1)<=_;omega) ?_;refine WT.dk (v':=.string (dS (s++(key x++[59])))) 18 Z (by show Value.string (dS s++(dS (key x)++dS [59]))=_;rw[iP,iP]) ?_;refine aq ?_;refine⟨s++(key x++[59]),sM,c7,?_⟩;show _=dh key (l.take (j+1));rw[yf,hxj,Ui,mP,hP]}):p:=h
theorem Gv(F:aw){b:Option Addr}{n d:Nat}{l:List Lr}(U:a7 gg F b n d l)(hn:n<=1000){i6:Nat}{ro:Bool}{fk:Nat}{g:Func}(I:CC.func fk=some g)(J:g.body.isSome=true)(P:F i6=some (.cells ro [.func (.func fk) ⟨[]⟩ ⟨[]⟩]))
  (key:Lr->List UInt8) (hlen:∀x∈l,(key x).length<=20) (i:∀x∈l,∀G,aw.le F G->Abs.Spec CC fk [.agg ⟨[.int .i64 x.aB,.int .i64 x.dot]⟩] G [] λ_ v o=>o=[]/\v=.string (dS (key x))) :
  Abs.Spec CC 192 [.slice b n d,.pointer (some ⟨i6,0,none⟩)] F [] λ_ v o=>o=[]/\v=.string (dS (dh key l)):=by have ab:=U.len;have r:∀j,(dh key (l.take j)).length<=21*j:=by{intro j;induction j with|zero=>{simp[dh]}|succ j ih=>{rw[yf];cases hx:l[j]? with|none=>{simp;omega}|some x=>{rw[Ui,mP,q0,q0,SF];have:=hlen x (gM hx);omega}}};refine Abs.Spec.fn (n:=21) Tryz.func192 rfl rfl λown=>?_;refine ai ?_;refine AW.range (S:=List UInt8) (λs=>[(4,.string (dS s))]) (λ_=>own) (λj s G=>s=dh key (l.take j)) n [] Z Z Z Z Z Z Z Z Z zo Z Z (λ_=>rfl) (λ_=>rfl) sM oR Z ?_ ?_;{intro j s F1 f hj hP;have R:=U.mono f;have ad:=f _ _ P;have ht:=r j;refine aq ?_;refine WT.bk hT R Z Z Z Z Z Z Z Z Z zo (λx hxj b1 off ae cs lx ag al t=>?_);obtain rfl:lx=_:=t;have C:=gM hxj;have an:=hlen x C;refine aq ?_;refine WT.aG hT Z Z Z Z Z Z (λi9 ao=>?_);refine aq ?_;refine WT.eY (first:=[]) (args:=[.agg ⟨[.int .i64 x.aB,.int .i64 x.dot]⟩]) (capt:=[]) I J Z Z Z Z Z Z Z (i x C F1 f) (λv hv=>?_);exact PL};{intro s F1 f hP;rw[pf zo] at hP;refine aq ?_;exact AW.ret ⟨_,[],⟨_,_,rfl,rfl,rfl⟩,bw,rfl,by rw[hP];rfl⟩}
structure QN where
 i:Nat
 ck:List (List Lr)
 rows:List (List Int)
 sa:Option Addr
 sn:Nat
 sc:Nat
 SB:List (Nat×aC)
 ta:Option Addr
 tn:Nat
 tc:Nat
 TB:List (Nat×aC)
 es:bS (List UInt8)
structure QA where
 ck:List (List Lr)
 row:List Int
 sa:Option Addr
 sn:Nat
 sc:Nat
 SB:List (Nat×aC)
 ra:Option Addr
 rn:Nat
 rc:Nat
 RB:List (Nat×aC)
 es:bS (List UInt8)
theorem nI{p:Prop} (h:p:=by{have hgt:=hg.range.ae;have hgn:=hg.range.az;have hl0:=h0.len;unfold ak;refine Abs.Spec.fn (n:=93) NU rfl rfl λown=>?_;refine AW.seq (AW.fj ?_);refine WT.bZ Z Z Z Z Z Z (λi4 hi4=>?_);refine WT.bZ Z Z Z Z Z Z (λi6 hi6=>?_);refine aq ?_;refine WT.ay 0 Z Z (λF0 hF0 hB0=>?_);have hi6:=hB0 i6 _ me;have h01:=h0.mono hF0;refine WT.aS hT Z Z Z Z Z Z Z Z Z Z Z Z Z Z (λi26 hi26=>?_);refine aq ?_;refine WT.makeMap Z Z Z Z (λim him=>?_);refine aq ?_;refine WT.eY (first:=[]) (args:=[.slice b n d]) (capt:=[.pointer (some ⟨i6,0,none⟩)]) J9 Z Z Z Z Z Z Z Z (J8 F0 h01 (hl0▸(hPl _ hP0).1) hgk hbk hi6 key (λx hx=>hlen x ((hPl _ hP0).2 x hx)) (λx hx G hG=>hkey x ((hPl _ hP0).2 x hx) G (hF0.trans hG))) (λv hv=>?_);subst hv;refine WT.KG zg hT 0 0 (m:=[]) (key:=dh key st0) Z Z Z Z Z Z Z Z Z Z Z Z ?_;refine aq ?_;refine AW.block ?_;refine AW.cr (S:=NN) (λs=>[(15,.int .i64 (s.i:Nat)),(12,.slice s.sa s.sn s.sc),(14,.slice s.ta s.tn s.tc)]) (λs=>s.TB::[(im,.map (aK zg s.es))]::s.SB::[]::[(i4,.cells false [.int .i64 g.ae,.int .i64 g.az,.int .i64 g.start,.slice ga gm gc])]::own) (λs G=>oj 400 (λs=>(cE g).map (nx s)) 401 0 [st0] []=oj 400 (λs=>(cE g).map (nx s)) (401-s.i) s.i s.ck s.rows/\rz 400 (λs=>(cE g).map (nx s)) st0 s.i s.ck s.rows/\cu (bR AG) G s.sa s.sn s.sc s.SB s.ck/\cu (bR fF) G s.ta s.tn s.tc s.TB s.rows/\tO key P s.es s.ck/\∀x∈s.ck,P x) (λs=>401-s.i) ⟨0,[st0],[],some ⟨i26,0,none⟩,1,1,[(i26,.cells false [.slice b n d])],none,0,0,[],cy [] (dh key st0) (.int .i64 0)⟩ sM (ah.flat (ri _)) ⟨rfl,rz.begin _ _ (by decide),⟨rfl,.inr ⟨i26,_,rfl,rfl,rfl,aF.single (R:=bR AG) (x:=st0) ⟨_,_,_,rfl,h01⟩,by decide⟩⟩,cu.dF _ _,tO.one hinj hP0,λx hx=>by rw[n0.1 hx];exact hP0⟩ ?_;intro s F1 hF1 hI;obtain⟨hnum,hN,hsb,htb,hmp,hall⟩:=hI;have hfew:=hN.FA;have hle:=hN.le;have hrl:=hN.len;have hsn:=hsb.len;have htn:=htb.len;have hi61:=hF1 _ _ hi6;refine xu ?_;refine AW.cond Z (λh=>?_) (λh=>?_);{have hlt:s.i<s.ck.length:=by{simp at h;omega};obtain⟨st,hst⟩:∃st,s.ck[s.i]?=some st:=⟨_,gE hlt⟩;have hPst:=hall st (gM hst);refine xu ?_;refine AW.block ?_;refine xu ?_;have hsy:=su F1 g hg (a:=ga) (m:=gm) (c:=gc);unfold ak at hsy;refine WT.bO Tryz.func146 Z Z Z Z Z Z hsy (λF2 v hF2 hv=>?_);obtain⟨ya,yn,yc,rfl,hy⟩:=hv;have hyl:=hy.len;rw[ez] at hyl;refine xu ?_;refine AW.range (S:=NV) (λu=>[(12,.slice u.sa u.sn u.sc),(16,.slice u.ra u.rn u.rc)]) (λu=>u.RB::s.TB::[(im,.map (aK zg u.es))]::u.SB::[]::[(i4,.cells false [.int .i64 g.ae,.int .i64 g.az,.int .i64 g.start,.slice ga gm gc])]::own) (λk u G=>cB s.ck (((cE g).map (nx st)).take k)=(u.ck,u.row)/\u.ck.length<=400/\cu (bR AG) G u.sa u.sn u.sc u.SB u.ck/\cu fF G u.ra u.rn u.rc u.RB u.row/\tO key P u.es u.ck/\∀x∈u.ck,P x) yn ⟨s.ck,[],s.sa,s.sn,s.sc,s.SB,none,0,0,[],s.es⟩ Z Z Z Z Z Z Z Z Z zo rfl rfl (λ_=>rfl) (λ_=>rfl) sM (ah.flat (ri _)) ⟨rfl,hfew,hsb.mono hF2,cu.dF _ _,hmp,hall⟩ ?_ ?_;{intro k u F3 hF3 hk hI;obtain⟨hadd,hu4,hub,hrb,hum,huall⟩:=hI;have hy3:=hy.mono hF3;have hi63:=hF3 _ _ (hF2 _ _ hi61);have hrow:=hrb.len;have hun:=hub.len;obtain⟨⟨ex,hex⟩,hnd,_,hro⟩:=pb (((cE g).map (nx st)).take k) s.ck;rw[hadd] at hex hnd hro;have hex:u.ck=s.ck++ex:=hex;have hrl:=hro.len;rw[R5,sh,ez] at hrl;have hrl:u.row.length=k:=by{have h9:u.row.length=min k (g.ae+g.az):=hrl;rw[h9,SP zo]};have hsti:u.ck[s.i]?=some st:=by{rw[hex,By hlt];exact hst};refine o9 ?_;refine WT.bk hT hy3 Z Z Z Z Z Z Z Z Z (by rw[ez];omega) (λy hyk b1 off1 ro1 cs1 lx1 hb1 hp1 hrel1=>?_);obtain rfl:lx1=_:=hrel1;obtain⟨hyo,hyi⟩:=Fk hyk;have hosk:((cE g).map (nx st))[k]?=some (nx st y):=by{rw[zm,hyk];rfl};have htk:((cE g).map (nx st)).take (k+1)=((cE g).map (nx st)).take k++[nx st y]:=by{rw[yf,hosk];rfl};refine o9 ?_;refine WT.aG hT Z Z Z Z Z Z (λi18 hi18=>?_);refine o9 ?_;refine WT.bJ hT hub.vec Z Z Z Z Z Z Z Z Z (by rw[hun,hex,q0];omega) (λb5 hb5=>?_);refine WT.Qj hT 4 hub.vec hb5 hsti Z Z Z Z Z Z Z Z Z (λv hv=>?_);obtain⟨qa,qn,qc,hv,hq⟩:=hv;obtain rfl:v=.slice qa qn qc:=by{simpa using hv};refine o9 ?_;refine WT.Cg (first:=firstx) (args:=[.slice qa qn qc,.agg ⟨[.bool y.term,.int .i64 y.n]⟩]) (capt:=captx) hgx hbx Z Z Z Z Z Z Z (hnext F3 (hF0.trans (hF1.trans (hF2.trans hF3))) _ _ _ st y hPst hq hyo) (λF4 v hF4 hv=>?_);obtain⟨za,zn,zc,zb,s',rfl,hz,hnx⟩:=hv;have hrb4:=hrb.mono hF4;have hub4:=hub.mono hF4;have hsnoc:=vg (((cE g).map (nx st)).take k) s.ck (nx st y);rw[<-htk,hadd] at hsnoc;refine o9 ?_;refine AW.cond Z (λhzb=>?_) (λhzb=>?_);{have hzb:zb=false:=by{simpa using hzb};rw[hzb,mb (by simp)] at hnx;rw[hnx] at hsnoc;refine o9 ?_;refine WT.aS hT Z Z Z Z Z Z Z Z Z Z Z Z Z Z (λi58 hi58=>?_);refine WT.bu (R:=fF) (ys:=[-1]) hT 2 hrb4 Z (λ_=>rfl) Z Z Z Z Z Z Z Z Z Z Z (λh0 s0=>aT hT s0 0 Z Z Z Z) (aF.single (R:=fF) (x:=-1) rfl) Z (by decide) gT (λa3 c3 B3 hB3=>?_);refine o9 ?_;refine AW.exit ?_;exact⟨⟨u.ck,u.row++[-1],u.sa,u.sn,u.sc,u.SB,a3,u.rn+1,c3,B3,u.es⟩,sM,c7,hsnoc,hu4,hub4,hB3,hum,huall⟩};{have hzb:zb=true:=by{simpa using hzb};rw[hzb,nw rfl] at hnx;rw[hnx] at hsnoc;have hPs:=hnP st y s' hPst hnx;refine o9 ?_;refine WT.eY (first:=[]) (args:=[.slice za zn zc]) (capt:=[.pointer (some ⟨i6,0,none⟩)]) J9 Z Z Z Z Z Z Z Z (J8 F4 hz (hz.len▸(hPl _ hPs).1) hgk hbk (hF4 _ _ hi63) key (λx hx=>hlen x ((hPl _ hPs).2 x hx)) (λx hx G hG=>hkey x ((hPl _ hPs).2 x hx) G (hF0.trans (hF1.trans (hF2.trans (hF3.trans (hF4.trans hG))))))) (λv hv=>?_);subst hv;refine o9 ?_;have hlk:=hum s' hPs;refine WT.Ny zg hT 3 (m:=u.es) (key:=dh key s') Z Z Z Z Z Z Z me Z Z Z (λv hv=>?_) (λhv=>?_);{rw[hv] at hlk;have hmem:s'∈u.ck:=by{by_cases hm:s'∈u.ck;{exact hm};{rw[mb hm] at hlk;cases hlk}};rw[nw hmem] at hlk;obtain rfl:=mm hlk;have hone:dC u.ck (some s')=(u.ck,((zT s' u.ck:Nat):Int)):=by{unfold dC;simp only[nw hmem];rfl};rw[hone] at hsnoc;refine o9 ?_;refine AW.cond Z (λh=>(by cases h)) (λ_=>?_);refine o9 ?_;refine WT.aS hT Z Z Z Z Z Z Z Z Z Z Z Z Z Z (λi58 hi58=>?_);refine WT.bu (R:=fF) (ys:=[((zT s' u.ck:Nat):Int)]) hT 2 hrb4 Z (λ_=>rfl) Z Z Z Z Z Z Z Z Z Z Z (λh0 s0=>aT hT s0 0 Z Z Z Z) (aF.single (R:=fF) (x:=((zT s' u.ck:Nat):Int)) rfl) Z (by decide) gT (λa3 c3 B3 hB3=>?_);refine o9 ?_;exact⟨⟨u.ck,u.row++[((zT s' u.ck:Nat):Int)],u.sa,u.sn,u.sc,u.SB,a3,u.rn+1,c3,B3,u.es⟩,sM,c7,hsnoc,hu4,hub4,hB3,hum,huall⟩};{rw[hv] at hlk;have hmem:s'∉u.ck:=λhm=>by{rw[nw hm] at hlk;cases hlk};have hone:dC u.ck (some s')=(u.ck++[s'],((u.ck.length:Nat):Int)):=by{unfold dC;simp only[mb hmem]};rw[hone] at hsnoc;refine o9 ?_;refine AW.cond Z (λ_=>?_) (λh=>(by cases h));refine o9 ?_;refine AW.cond Z (λh4=>?_) (λh4=>?_);{have h4:u.ck.length=400:=by{simp at h4;omega};refine o9 ?_;refine AW.ret ⟨_,[],⟨_,_,rfl,⟨_,_,rfl,⟨_,_,rfl,rfl,rfl⟩,rfl⟩,rfl⟩,bw,rfl,.inl ⟨?_,rfl⟩⟩;rw[hnum,show 401-s.i=(400-s.i)+1 by omega,H3 _ () hst,mb];have h5:=EL s.ck (((cE g).map (nx st)).take (k+1)) (((cE g).map (nx st)).drop (k+1));rw[S0,hsnoc] at h5;simp only[q0,SF] at h5;omega};{have h4:u.ck.length≠400:=by{simp at h4;omega};refine o9 ?_;refine WT.yM zg hT 3 0 (m:=u.es) (key:=dh key s') Z Z Z Z Z Z Z Z Z Z Z Z ?_;refine o9 ?_;refine WT.aS hT Z Z Z Z Z Z Z Z Z Z Z Z Z Z (λi80 hi80=>?_);refine WT.bu (R:=bR AG) (ys:=[s']) hT 5 hub4 Z (λ_=>rfl) Z Z Z Z Z Z Z Z Z Z Z (λh0 s0=>aT hT s0 0 Z Z Z Z) (aF.single (R:=bR AG) (x:=s') ⟨_,_,_,rfl,hz⟩) Z (by decide) gT (λa4 c4 B4 hB4=>?_);refine o9 ?_;refine WT.aS hT Z Z Z Z Z Z Z Z Z Z Z Z Z Z (λi58 hi58=>?_);refine WT.bu (R:=fF) (ys:=[((u.sn:Nat):Int)]) hT 3 hrb4 Z (λ_=>rfl) Z Z Z Z Z Z Z Z Z Z Z (λh0 s0=>aT hT s0 0 Z Z Z Z) (aF.single (R:=fF) (x:=((u.sn:Nat):Int)) rfl) Z (by decide) gT (λa3 c3 B3 hB3=>?_);refine o9 ?_;have hum2:=hum.add hinj hPs hmem;rw[<-hun] at hum2 hsnoc;refine⟨⟨u.ck++[s'],u.row++[((u.sn:Nat):Int)],a4,u.sn+1,c4,B4,a3,u.rn+1,c3,B3,cy u.es (dh key s') (.int .i64 (u.sn:Nat))⟩,sM,c7,hsnoc,?_,hB4,hB3,hum2,λx hx=>?_⟩;{show (u.ck++[s']).length<=400;rw[q0,SF];omega};{rcases AI.1 hx with hx | hx;{exact huall x hx};{rw[n0.1 hx];exact hPs}}}}}};{intro u F3 hF3 hI;obtain⟨hadd,hu4,hub,hrb,hum,huall⟩:=hI;rw[pf (by rw[sh,ez];omega)] at hadd;refine AW.ay 0 Z Z (λF4 hF4 hB4=>?_);have hrow:=hrb.frozen hF4 hB4;have hF14:=(hF2.trans hF3).trans hF4;have htb4:=htb.mono hF14;refine o9 ?_;refine WT.aS hT Z Z Z Z Z Z Z Z Z Z Z Z Z Z (λi89 hi89=>?_);refine WT.bu (R:=bR fF) (ys:=[u.row]) hT 2 htb4 Z (λ_=>rfl) Z Z Z Z Z Z Z Z Z Z Z (λh0 s0=>aT hT s0 0 Z Z Z Z) (aF.single (R:=bR fF) (x:=u.row) ⟨_,_,_,rfl,hrow⟩) Z (by decide) gT (λa3 c3 B3 hB3=>?_);refine o9 ?_;have hstep:(cB s.ck ((cE g).map (nx st))).1=u.ck/\(cB s.ck ((cE g).map (nx st))).2=u.row:=by{rw[hadd];exact⟨rfl,rfl⟩};have hN2:=hN.next hst (by rw[hstep.1];exact hu4);have hun:=hub.len;refine⟨⟨s.i+1,u.ck,s.rows++[u.row],u.sa,u.sn,u.sc,u.SB,a3,s.tn+1,c3,B3,u.es⟩,by dsimp only;omega,sM,c7,?_,?_,hub.mono hF4,hB3,hum,huall⟩;{rw[hnum,show 401-s.i=(400-s.i)+1 by omega,H3 _ () hst,nw (by rw[hstep.1];exact hu4),hstep.1,hstep.2];show oj 400 _ (400-s.i) (s.i+1) _ _=oj 400 _ (401-(s.i+1)) (s.i+1) _ _;rw[show 401-(s.i+1)=400-s.i by omega]};{rw[hstep.1,hstep.2] at hN2;exact hN2}}};{have hge:s.ck.length<=s.i:=by{simp at h;omega};refine AW.exit ?_;refine AW.ay 0 Z Z (λF2 hF2 hB2=>?_);refine AW.ay 2 Z Z (λF3 hF3 hB3=>?_);have ht:=htb.frozen hF2 hB2;have hs3:=(hsb.mono hF2).frozen hF3 hB3;refine xu ?_;refine AW.ret ⟨_,[],⟨_,_,rfl,⟨_,_,rfl,⟨_,_,rfl,rfl,rfl⟩,rfl⟩,rfl⟩,bw,rfl,.inr ⟨s.ck,s.rows,_,_,_,_,_,_,?_,rfl,hs3,ht.mono hF3⟩⟩;rw[hnum,show 401-s.i=(400-s.i)+1 by omega];unfold oj;rw[D2 hge]}}):p:=h
namespace NI
abbrev NN:=QN
abbrev NV:=QA
abbrev NU:=Tryz.func151
abbrev J9:=Tryz.func192
abbrev J8:=@Gv
abbrev AG:=gg
end NI
open NI in
theorem B0(F:aw)(g:aj)(hg:Valid g){ga:Option Addr}{gm gc:Nat}{b:Option Addr}{n d:Nat}{st0:List Lr}(h0:a7 gg F b n d st0)
  {fk fx:Nat} {i j:Func} {firstx captx:List Value} (hgk:CC.func fk=some i) (hbk:i.body.isSome=true) (hgx:CC.func fx=some j) (hbx:j.body.isSome=true)
  (key:Lr->List UInt8) (nx:List Lr->Sym->Option (List Lr)) (P:List Lr->Prop) (f:Lr->Prop)
  (hP0:P st0) (hPl:∀s,P s->s.length<=1000/\∀x∈s,f x) (hinj:∀s s',P s->P s'->dh key s=dh key s'->s=s') (hnP:∀s y s',P s->nx s y=some s'->P s')
  (hlen:∀x,f x->(key x).length<=20) (hkey:∀x,f x->∀G,aw.le F G->Abs.Spec CC fk [.agg ⟨[.int .i64 x.aB,.int .i64 x.dot]⟩] G [] λ_ v o=>o=[]/\v=.string (dS (key x)))
  (hnext:∀G,aw.le F G->∀(a:Option Addr) (m c:Nat) (s:List Lr) (y:Sym),P s->a7 gg G a m c s->dr g.ae g.az y->
   Abs.Spec CC fx (firstx++[.slice a m c,.agg ⟨[.bool y.term,.int .i64 y.n]⟩]++captx) G [] λG' v o=>o=[]/\∃l r t z s',v=.tuple ⟨[.slice l r t,.bool z]⟩/\a7 gg G' l r t s'/\nx s y=if z=true then some s' else none) :
  Abs.Spec CC 151 [.agg ⟨ak g ga gm gc⟩,.slice b n d,.func (.func fk) ⟨[]⟩ ⟨[]⟩,.func (.func fx) ⟨firstx⟩ ⟨captx⟩] F [] λC v o=>o=[]/\
   ((oj 400 (λs=>(cE g).map (nx s)) 401 0 [st0] []=none/\v=.tuple ⟨[.slice none 0 0,.slice none 0 0,.bool false]⟩)\/
    ∃S rows I J U a2 n2 c2,oj 400 (λs=>(cE g).map (nx s)) 401 0 [st0] []=some (S,rows)/\v=.tuple ⟨[.slice I J U,.slice a2 n2 c2,.bool true]⟩/\a7 (bR gg) C I J U S/\a7 (bR fF) C a2 n2 c2 rows):=nI
def PI(g:aj)(s:List Lr):Prop:=s.length<=1000/\∀x∈s,gf g x
theorem Pf{g:aj}(f:Valid g){x:Lr}(h:gf g x):x.aB<100/\x.dot<100:=by have j:=f.range.rules;obtain⟨l,o⟩:=h;refine⟨by omega,?_⟩;have:(bF g x.aB).length<=4:=by{unfold bF;split;{simp};{cases i:g.rules[x.aB]? with|none=>simp|some r=>{exact(f.right r (gM i)).2.1}}};omega
theorem JM{g:aj}(f:Valid g):(vG g).length<=1000:=by have l:=f.range.rules;unfold vG;rw[List.length_flatten,Tj];have:∀n≤g.rules.length+1,((List.range n).map (List.length ∘ λk=>(List.range ((bF g k).length+1)).map λd=>(⟨k,d⟩:Lr))).sum<=n*5:=by{intro n o;induction n with|zero=>simp|succ n i=>{rw[Tp,R1,Tf];have i:=i zo;simp only[y2,U2,Sv,List.sum_nil,Function.comp,sh,Tb];have t:(bF g n).length<=4:=by{unfold bF;split;{simp};{cases j:g.rules[n]? with|none=>simp|some r=>{exact(f.right r (gM j)).2.1}}};omega}};have h:=this _ (mc _);omega
theorem kB{g:aj}(f:Valid g)(l:List Lr):PI g (eT g l):=by refine⟨?_,kA⟩;have i:=JM f;have j:=List.length_filter_le (λz=>@decide (gV g l z) (Classical.propDecidable _)) (vG g);unfold eT;omega
theorem qz(F:aw)(g:aj)(f:Valid g){a:Option Addr}{m c:Nat}(C:a7 cO F a m c g.rules) :
  Abs.Spec CC 100 [.agg ⟨ak g a m c⟩] F [] λF' v o=>o=[]/\((iL g=none/\v=.tuple ⟨[.agg ⟨[.slice none 0 0,.slice none 0 0]⟩,.int .i64 2]⟩)\/
   ∃I rows a1 n1 c1 a2 n2 c2,iL g=some (I,rows)/\v=.tuple ⟨[.agg ⟨[.slice a1 n1 c1,.slice a2 n2 c2]⟩,.int .i64 0]⟩/\a7 (bR gg) F' a1 n1 c1 I/\a7 (bR fF) F' a2 n2 c2 rows):=by have ap:=C.len;have bl:=f.range.rules;have ar:∀r∈g.rules,r.right.length<=100:=λr h=>by{have:=(f.right r h).2.1;omega};refine Abs.Spec.fn (n:=34) Tryz.func100 rfl rfl λown=>?_;refine AW.seq (AW.fj ?_);refine WT.bZ Z Z Z Z Z Z (λi1 i=>?_);refine WT.ay 0 Z Z (λF0 av ax=>?_);have i:=ax i1 _ me;have C:=C.mono av;unfold ak at i |-;refine WT.aG hT Z Z Z Z Z Z (λi2 bn=>?_);refine aq ?_;have J:=je F0 g f.range C;unfold ak at J;refine WT.aX Tryz.func85 Z Z Z Z Z Z J (λv t=>?_);rw[f.ui] at t;subst t;refine aq ?_;refine AW.cond Z (λh=>(by cases h)) (λ_=>?_);refine aq ?_;refine AW.draw (ps:=[(0,6),(0,7),(1,6)]) Z Z (aq ?_);refine WT.aS hT Z Z Z Z Z Z Z Z Z Z Z Z Z Z (λi21 bd=>?_);refine WT.ay 0 Z Z (λF1 j az=>?_);have a0:a7 gg F1 (some ⟨i21,0,none⟩) 1 2 [⟨g.rules.length,0⟩]:=by{have hb:cu gg F0 (some ⟨i21,0,none⟩) 1 2 [(i21,.cells false [.int .i64 m,.int .i64 0])] [⟨g.rules.length,0⟩]:=⟨rfl,.inr ⟨i21,_,rfl,rfl,rfl,aF.single (R:=gg) (x:=⟨g.rules.length,0⟩) (by rw[<-ap];rfl),by decide⟩⟩;exact hb.frozen j az};have P:=C.mono j;have U:=j _ _ i;have aa:=nf F1 g ar P zo a0 zo (λz hz=>(iQ z hz).1);unfold ak at aa;refine WT.bO Tryz.func152 Z Z Z Z Z Z aa (λF2 v ab t=>?_);obtain⟨a8,m8,c8,zs,rfl,hz,bs,ac,ad⟩:=t;obtain rfl:zs=Bv g:=ss iQ ac ad;have a4:=P.mono ab;have ae:=ab _ _ U;refine aq ?_;have af:=B0 F2 g f (ga:=a) (gm:=m) (gc:=c) hz (fk:=148) (fx:=153) (firstx:=[]) (captx:=[.pointer (some ⟨i1,0,none⟩)]) Tryz.func148 rfl Tryz.func153 rfl kK (Hw g) (PI g) (λx=>x.aB<100/\x.dot<100) (kB f _) (λs hs=>⟨hs.1,λx l=>Pf f (hs.2 x l)⟩) (λs s' hs a5 e=>Ja (λx l=>Pf f (hs.2 x l)) (λx l=>Pf f (a5.2 x l)) e) (λs y s' _ e=>by{unfold Hw at e;split at e;{cases e};{obtain rfl:=mm e;exact kB f _}}) (λx _=>by have:=ue x;omega) (λx l G _=>wW G x l) (λG hG a' m' c' s y hs hA hy=>Ha G g f (hG _ _ ae) (a4.mono hG) hA (hA.len▸hs.1) hs.2 y hy);(unfold ak at af;refine WT.bO Tryz.func151 Z Z Z Z Z Z af (λF3 v bx t=>?_);rcases t with ⟨a9,rfl⟩ | ⟨S,rows,a1,n1,c1,a2,n2,c2,ag,rfl,hS,hR⟩);{refine aq ?_;refine⟨k9,?_⟩;refine aq ?_;refine AW.cond Z (λ_=>?_) (λh=>(by cases h));refine aq ?_;exact AW.ret ⟨_,[],⟨_,_,⟨_,rfl,λG h0 s0=>aR (s0.has (p:=1) rfl me) (bh hT rfl)⟩,⟨_,_,rfl,rfl,rfl⟩,rfl⟩,bw,rfl,.inl ⟨a9,rfl⟩⟩};{refine aq ?_;refine⟨k9,?_⟩;refine aq ?_;refine AW.cond Z (λh=>(by cases h)) (λ_=>?_);refine aq ?_;exact AW.ret ⟨_,[],⟨_,_,⟨_,rfl,λG h0 s0=>aR (s0.has (p:=1) rfl me) (bh hT rfl)⟩,⟨_,_,rfl,rfl,rfl⟩,rfl⟩,bw,rfl,.inr ⟨S,rows,_,_,_,_,_,_,ag,rfl,hS,hR⟩⟩}
def PT(x:aM):List Value:=[.int .i64 x.item.aB,.int .i64 x.item.dot,.int .u32 x.set]
def cL:Ty aM where
 size:=3
 rel:=λ_ l x=>l=PT x
 len:=λ_ _ _ h=>by rw[h];rfl
 one:=λ_ _ _ h=>by rw[h];rfl
 mono:=λ_ _ _ _ _ h=>h
theorem FE(F:aw)(x:aM)(g:x.item.aB<100/\x.item.dot<100)(hs:x.set<100):Abs.Spec CC 98 [.agg ⟨[.int .i64 x.item.aB,.int .i64 x.item.dot,.int .u32 x.set]⟩] F [] λ_ v o=>o=[]/\v=.string (dS (xz x)):=by have j:=ue x.item;have l:=j6 x.set;refine Abs.Spec.fn (n:=12) Tryz.func98 rfl rfl λown=>?_;refine AW.seq (AW.fj ?_);refine WT.bZ Z Z Z Z Z Z (λi1 i=>?_);refine ai ?_;refine AW.draw (ps:=[(3,7),(5,2)]) Z Z (ai ?_);refine WT.aX Tryz.func148 Z Z Z Z Z Z (wW F x.item g) (λv f=>?_);subst f;refine WT.uv Z Z Z Z Z Z (by rw[gC];show _+1<=_;omega) (ai ?_);refine WT.conv hT (x:=(x.set:Int)) Z Z Z Z Z Z Z Z (wrap64 ⟨by omega,by omega⟩) (WT.aX Tryz.func149 Z Z Z Z Z Z (uy _ x.set hs) (λv f=>?_));subst f;refine WT.uv Z Z Z Z Z Z (by rw[show (dS (kK x.item)++{ data:=#[32] }:ByteArray)=dS (kK x.item)++dS [32] from rfl,iP,gC,gC,q0];show _+1+_<=_;omega) (ai ?_);refine⟨k9,?_⟩;refine AW.ret ⟨_,[],⟨_,_,rfl,rfl,rfl⟩,bw,rfl,?_⟩;show Value.string (dS (kK x.item)++dS [32]++dS (fh x.set))=_;rw[iP,iP,AS];rfl
theorem IH(x:aM):(xz x).length<=8:=by have f:=ue x.item;have g:=j6 x.set;unfold xz;simp only[q0,If];omega
theorem G6(F:aw)(g:aj)(hg:Valid g)(J:List Bool->List (List Bool)->Prop)(c1:J (List.replicate g.az false) (List.replicate g.az (List.replicate g.ae false)))
  (c2:∀E Fi r,r∈g.rules->J E Fi->∀E',(E'=E\/(E'=E.set r.left true/\(ofRow E Fi (List.replicate g.ae false) r.right).2=true))->J E' (Fi.set r.left (aI (Fi.getD r.left []) (ofRow E Fi (List.replicate g.ae false) r.right).1)))
  {a:Option Addr} {m c:Nat} (hr:a7 cO F a m c g.rules) :
  Abs.Spec CC 131 [.agg ⟨ak g a m c⟩] F [] λF' v o=>o=[]/\∃is E Fi,v=.pointer (some ⟨is,0,none⟩)/\yA F' is g a m c E Fi/\J E Fi/\E.length=g.az/\Fi.length=g.az:=by
 unfold ak;have c4:=hr.len;have ev:=hg.range.rules;have ex:=hg.range.az;have ey:=hg.range.ae;refine Abs.Spec.fn (n:=81) Tryz.func131 rfl rfl λown=>?_;refine AW.seq (AW.fj ?_);refine WT.bZ Z Z Z Z Z Z (λi1 I=>?_);refine WT.ay 0 Z Z (λF0 c5 c6=>?_);have I:=c6 i1 _ me;have hr:=hr.mono c5;refine aq ?_;refine AW.draw (ps:=[(0,3)]) Z Z ?_;refine aq ?_;refine WT.nL (l:=g.az) hT Z Z Z Z Z Z Z Z Z Z Z Z gT (λC e1=>?_);rw[kJ];refine aq ?_;refine WT.bZ Z Z Z Z Z Z (λis e2=>?_);refine aq ?_;refine⟨k9,?_⟩;refine aq ?_
 refine AW.range (S:=FS) (λ_=>[]) (λs=>[(is,.cells false [.int .i64 g.ae,.int .i64 g.az,.int .i64 g.start,.slice a m c,.slice (some ⟨C,0,none⟩) g.az (if g.az=0 then 0 else 1),.slice s.a s.m s.c])]::s.B::[(C,.cells false (List.replicate g.az (.bool false)))]::s.bs::[]::own)
  (λj s G=>cu zC G s.a s.m s.c s.B s.vs/\Abs.Rows a6 s.vs s.bs (List.replicate j (List.replicate g.ae false))) g.az ⟨none,0,0,[],[],[]⟩ Z Z Z Z Z Z Z Z Z zo rfl rfl (λ_=>rfl) (λ_=>rfl) sM (ah.flat (ri _)) ⟨cu.dF _ _,Abs.Rows.nil⟩ ?_ ?_
 ·intro j s F1 a8 hj hP;obtain⟨hb,hR⟩:=hP;have I:=a8 _ _ I;have bi:=hb.len;have ao:=hR.len.1;rw[SE] at ao;refine AW.draw (ps:=[(4,7),(4,8)]) Z Z ?_;refine aq ?_;refine WT.nL (l:=g.ae) hT Z Z Z Z Z Z Z Z Z Z Z Z gT (λir e4=>?_);rw[kJ];refine WT.aS hT Z Z Z Z Z Z Z Z Z Z Z Z Z Z (λi9 e5=>?_)
  refine WT.bu (R:=zC) (ys:=[.slice (some ⟨ir,0,none⟩) g.ae (if g.ae=0 then 0 else 1)]) hT 3 hb Z (λ_=>rfl) Z Z Z Z Z Z Z Z Z Z Z (λh0 s0=>aT hT s0 0 Z Z Z Z) (aF.single (R:=zC) ⟨rfl,rfl⟩) Z (by decide) gT (λa3 c3 B3 al=>?_);refine aq ?_;refine⟨k9,?_⟩;refine⟨⟨a3,s.m+1,c3,B3,s.vs++[.slice (some ⟨ir,0,none⟩) g.ae (if g.ae=0 then 0 else 1)],s.bs++[(ir,.cells false (List.replicate g.ae (.bool false)))]⟩,sM,?_,al,?_⟩
  ·refine ah.skip _ (ah.flat ?_);simp only[So,UW];have:=n7 (ir,aC.cells false (List.replicate g.ae (.bool false))) ((is,aC.cells false [.int .i64 g.ae,.int .i64 g.az,.int .i64 g.start,.slice a m c,.slice (some ⟨C,0,none⟩) g.az (if g.az=0 then 0 else 1),.slice a3 (s.m+1) c3])::(B3++[(C,.cells false (List.replicate g.az (.bool false)))])) s.bs ([]++own.flatten);simpa using this
  ·rw[show List.replicate (j+1) (List.replicate g.ae false)=List.replicate j (List.replicate g.ae false)++[List.replicate g.ae false] from List.replicate_succ'];have:=hR.snoc (K:=a6) (id:=ir) (row:=List.replicate g.ae false) (c:=if g.ae=0 then 0 else 1) (by simp);rw[SE,TV] at this;exact this
 ·intro s F1 a8 hP;obtain⟨hb,hR⟩:=hP;have I:=a8 _ _ I;have ao:=hR.len.1;rw[SE] at ao;have c8:=hr.mono a8;have bi:=hb.len;obtain⟨io,cs,c9,bl,dd,ba,_⟩:=hb.at_.resolve_left (λh=>by rw[h.1] at ao;simp at ao;omega);have df:=Aq ba;subst df;have bl:s.c=1:=bl;refine aq ?_
  refine AW.le (own2:=((is,.cells false [.int .i64 g.ae,.int .i64 g.az,.int .i64 g.start,.slice a m c,.slice (some ⟨C,0,none⟩) g.az (if g.az=0 then 0 else 1),.slice (some ⟨io,0,none⟩) g.az 1])::(io,.cells false s.vs)::(C,.cells false ((List.replicate g.az false).map a6.cell))::s.bs)::own) (ah.flat ?_) ?_
  ·rw[c9,bl,dd,show s.m=g.az by omega,TV];exact ri _
  refine AW.block ?_;refine AW.cr (S:=FM) (λt=>[(4,.bool t.again)]) (λt=>((is,.cells false [.int .i64 g.ae,.int .i64 g.az,.int .i64 g.start,.slice a m c,.slice (some ⟨C,0,none⟩) g.az (if g.az=0 then 0 else 1),.slice (some ⟨io,0,none⟩) g.az 1])::(io,.cells false s.vs)::(C,.cells false (t.E.map a6.cell))::t.bs)::own)
   (λt G=>Abs.Rows a6 s.vs t.bs t.Fi/\lq g.az g.ae t.Fi/\t.E.length=g.az/\(t.again=false->fm g t.E t.Fi)/\J t.E t.Fi) (λt=>if t.again=true then 1+(g.az+g.az*g.ae-(fZ t.E+dM t.Fi)) else 0) ⟨List.replicate g.az false,List.replicate g.az (List.replicate g.ae false),s.bs,true⟩
   sM oR ⟨hR,⟨by simp,λr hr=>by rw[SX hr];simp⟩,by simp,λh=>(by cases h),c1⟩ ?_
  intro t F2 b6 hP;obtain⟨hR,hM,hE,hC,hJ⟩:=hP;have I:=b6 _ _ I;have b7:=c8.mono b6;refine aq ?_;refine AW.cond Z (λh=>?_) (λh=>?_)
  ·refine aq ?_;refine AW.block ?_;refine aq ?_;refine AW.range (S:=FM) (λt=>[(4,.bool t.again)]) (λt=>((is,.cells false [.int .i64 g.ae,.int .i64 g.az,.int .i64 g.start,.slice a m c,.slice (some ⟨C,0,none⟩) g.az (if g.az=0 then 0 else 1),.slice (some ⟨io,0,none⟩) g.az 1])::(io,.cells false s.vs)::(C,.cells false (t.E.map a6.cell))::t.bs)::own)
    (λk u G=>Abs.Rows a6 s.vs u.bs u.Fi/\lq g.az g.ae u.Fi/\u.E.length=g.az/\fZ t.E+dM t.Fi<=fZ u.E+dM u.Fi/\(u.again=true->fZ t.E+dM t.Fi<fZ u.E+dM u.Fi)/\(u.again=false->∀r∈g.rules.take k,qS g.ae u.E u.Fi r)/\J u.E u.Fi) m ⟨t.E,t.Fi,t.bs,false⟩
    Z Z Z Z Z Z Z Z Z zo rfl rfl (λ_=>rfl) (λ_=>rfl) sM oR ⟨hR,hM,hE,mc _,λh=>(by cases h),by simp,hJ⟩ ?_ ?_
   ·intro k u F3 ar hk hP;obtain⟨hR,hM,hE,dl,bn,hC,bo⟩:=hP;have I:=ar _ _ I;have dq:=b7.mono ar;refine aq ?_;refine WT.bk hT dq Z Z Z Z Z Z Z Z Z zo (λr br b1 off ro cs lx hb e7 b9=>?_);obtain⟨b2,n2,d2,rfl,ca⟩:=b9;obtain⟨ac,e8,dv⟩:=hg.right r (gM br);have en:=ca.len;refine aq ?_;refine WT.aG hT Z Z Z Z Z Z (λi6 fa=>?_);refine aq ?_
    have cf:∀G,aw.le F3 G->(∀i b,(i,b)∈((is,aC.cells false [.int .i64 g.ae,.int .i64 g.az,.int .i64 g.start,.slice a m c,.slice (some ⟨C,0,none⟩) g.az (if g.az=0 then 0 else 1),.slice (some ⟨io,0,none⟩) g.az 1])::(io,.cells false s.vs)::(C,.cells false (u.E.map a6.cell))::u.bs)->G i=some b)->
      a7 fX G (some ⟨C,0,none⟩) g.az (if g.az=0 then 0 else 1) u.E/\a7 (bR fX) G (some ⟨io,0,none⟩) g.az 1 u.Fi:=by
     intro G hG P;constructor
     ·have:=eD (K:=a6) (R:=fX) (F:=G) (id:=C) (row:=u.E) (c:=if u.E.length=0 then 0 else 1) (ro:=false) rfl (λ_ _=>rfl) rfl (P C _ (by simp));rw[hE] at this;exact this
     ·have:=Abs.Rows.arr (K:=a6) (R:=fX) rfl (λ_ _=>rfl) (F:=G) (o:=io) (c:=if u.Fi.length=0 then 0 else 1) (ro:=false) hR (λi b hm=>P i b (by simp[hm])) rfl (P io _ (by simp));rw[hM.size,mb zo] at this;exact this
    refine WT.Je 1 Tryz.func133 Z Z Z Z Z Z Z (λG hG P=>y4 G (ae:=g.ae) (az:=g.az) (P is _ me) (cf G hG P).1 (cf G hG P).2 hM.row zo (ca.mono hG) zo dv) (λv B hv=>?_);obtain⟨ir,rfl,av,rfl⟩:=hv;have bb:qS g.ae u.E u.Fi r↔aI (u.Fi.getD r.left []) (ofRow u.E u.Fi (List.replicate g.ae false) r.right).1=u.Fi.getD r.left []/\((ofRow u.E u.Fi (List.replicate g.ae false) r.right).2=true->u.E.getD r.left false=true):=Iff.rfl;have bc:=c2 u.E u.Fi r (gM br) bo
    generalize ofRow u.E u.Fi (List.replicate g.ae false) r.right=fr at av bb bc |-;obtain⟨row,bd⟩:=fr;dsimp only at av bb bc;have ch:r.left<u.Fi.length:=by rw[hM.size];exact ac
    have f:=gE ch;generalize c0:u.Fi[r.left]=cU at f;have ax:=hM.row cU (gM f);obtain⟨id,cc,ck,bt,fd⟩:=hR.at r.left cU f;rw[ax] at ck;have cn:s.vs[0+r.left*1]?=some (.slice (some ⟨id,0,none⟩) g.ae cc):=by rw[yo,R9];exact ck
    have a0:u.Fi.getD r.left []=cU:=by rw[qs,f];rfl
    have d1:r.left<u.E.length:=by rw[hE];exact ac
    obtain⟨e0,a1⟩:∃e0,u.E[r.left]?=some e0:=⟨_,gE d1⟩;have bv:u.E.getD r.left false=e0:=by rw[qs,a1];rfl
    have be:(u.E.map a6.cell)[0+r.left*1]?=some (.bool e0):=by rw[yo,R9,zm,a1];rfl
    have d3:(aI cU row).length=g.ae:=by rw[gK zo];exact ax
    have d4:=hR.set r.left cU (aI cU row) id f zo bt;have d5:lq g.az g.ae (u.Fi.set r.left (aI cU row)):=hM.setRow _ d3;have eo:=AJ (row':=aI cU row) f;have co:=Cz (xs:=cU) (ys:=row) zo;have ad:aI cU row=cU->u.Fi.set r.left (aI cU row)=u.Fi:=by
     intro e;rw[e];apply Sb;intro i;by_cases hi:i=r.left
     ·subst hi;rw[sj ch,f]
     ·rw[tj zo]
    rw[a0,bv] at bb;rw[a0] at bc;refine aq ?_;refine WT.cz (j:=r.left) (s:=1) hT Z Z Z Z Z Z Z Z Z ac ?_;refine WT.loadAt hT 2 Z Z Z Z Z Z (ma _ me) Z Z cn ?_;refine aq ?_;have d6:=cw bt;have d7:=ff (id,aC.cells false ((aI cU row).map a6.cell)) bt
    refine WT.le (own2:=[(ir,.cells false (row.map a6.cell))]::[(id,.cells false (cU.map a6.cell))]::((is,.cells false [.int .i64 g.ae,.int .i64 g.az,.int .i64 g.start,.slice a m c,.slice (some ⟨C,0,none⟩) g.az (if g.az=0 then 0 else 1),.slice (some ⟨io,0,none⟩) g.az 1])::(io,.cells false s.vs)::(C,.cells false (u.E.map a6.cell))::u.bs.eraseIdx r.left)::[(i6,.cells false [.int .i64 r.left,.slice b2 n2 d2])]::own) (ah.flat ?_) ?_
    ·simp only[So];refine Uu _ ?_;exact vY _ _ [_,_,_] _ _ _ d6
    refine WT.pV (db:=λD'=>[(ir,.cells false (row.map a6.cell))]::D'::((is,.cells false [.int .i64 g.ae,.int .i64 g.az,.int .i64 g.start,.slice a m c,.slice (some ⟨C,0,none⟩) g.az (if g.az=0 then 0 else 1),.slice (some ⟨io,0,none⟩) g.az 1])::(io,.cells false s.vs)::(C,.cells false (u.E.map a6.cell))::u.bs.eraseIdx r.left)::[(i6,.cells false [.int .i64 r.left,.slice b2 n2 d2])]::own) 0 1 Tryz.func134 Z Z Z Z Z Z (ri _) (λ_=>ri _) (λG hG P=>rf G (it:=id) (xs:=cU) (ys:=row) (m:=g.ae) zo (by
     have:=eD (K:=a6) (R:=fX) (F:=G) (id:=ir) (row:=row) (c:=if row.length=0 then 0 else 1) (ro:=false) rfl (λ_ _=>rfl) rfl (P ir _ me);rw[av] at this;exact this) zo zo) (λv D hv=>?_)
    obtain⟨rfl,rfl⟩:=hv;refine WT.le (own2:=[(ir,.cells false (row.map a6.cell))]::[(i6,.cells false [.int .i64 r.left,.slice b2 n2 d2])]::((is,.cells false [.int .i64 g.ae,.int .i64 g.az,.int .i64 g.start,.slice a m c,.slice (some ⟨C,0,none⟩) g.az (if g.az=0 then 0 else 1),.slice (some ⟨io,0,none⟩) g.az 1])::(io,.cells false s.vs)::(C,.cells false (u.E.map a6.cell))::u.bs.set r.left (id,.cells false ((aI cU row).map a6.cell)))::own) (ah.flat ?_) ?_
    ·simp only[So];refine Uu _ ?_;exact(vY _ _ [_,_,_] _ _ _ d7).symm
    refine aq ?_;have done:∀(E':List Bool) (ag:Bool),(E'=u.E\/(E'=u.E.set r.left true/\e0=false/\ag=true/\bd=true))->(aI cU row≠cU->ag=true)->(u.again=true->ag=true)->(ag=true->u.again=true\/aI cU row≠cU\/fZ E'=fZ u.E+1)->(ag=false->bd=true->e0=true)->
      (Abs.Rows a6 s.vs (u.bs.set r.left (id,.cells false ((aI cU row).map a6.cell))) (u.Fi.set r.left (aI cU row))/\lq g.az g.ae (u.Fi.set r.left (aI cU row))/\E'.length=g.az/\fZ t.E+dM t.Fi<=fZ E'+dM (u.Fi.set r.left (aI cU row))/\(ag=true->fZ t.E+dM t.Fi<fZ E'+dM (u.Fi.set r.left (aI cU row)))/\(ag=false->∀r'∈g.rules.take (k+1),qS g.ae E' (u.Fi.set r.left (aI cU row)) r')/\J E' (u.Fi.set r.left (aI cU row))):=by
     intro E' ag bx h1 h2 h3 h4;have d8:fZ u.E<=fZ E'/\E'.length=g.az:=by
      rcases bx with rfl | ⟨rfl,h5,_,_⟩
      ·exact⟨mc _,hE⟩
      ·subst h5;rw[oF a1];exact⟨by omega,by simp[hE]⟩
     refine⟨d4,d5,d8.2,by omega,λU=>?_,λU=>?_,bc E' (bx.imp (λh=>h) λh=>⟨h.1,h.2.2.2⟩)⟩
     ·rcases h3 U with h5 | h5 | h5
      ·have:=bn h5;omega
      ·have:=co.2 h5;omega
      ·omega
     ·have ab:aI cU row=cU:=by
       rcases Classical.em (aI cU row=cU) with h5 | h5
       ·exact h5
       ·rw[h1 h5] at U;cases U
      have d9:u.again=false:=by
       cases hu:u.again with
       | false=>rfl
       | true=>rw[h2 hu] at U;cases U
      have ea:E'=u.E:=by
       rcases bx with h5 | ⟨_,_,h5,_⟩
       ·exact h5
       ·rw[h5] at U;cases U
      subst ea;rw[ad ab];exact mf br (hC d9) (bb.2 ⟨ab,h4 U⟩)
    have bf:∀ag,ah ((λt:FM=>((is,aC.cells false [.int .i64 g.ae,.int .i64 g.az,.int .i64 g.start,.slice a m c,.slice (some ⟨C,0,none⟩) g.az (if g.az=0 then 0 else 1),.slice (some ⟨io,0,none⟩) g.az 1])::(io,.cells false s.vs)::(C,.cells false (t.E.map a6.cell))::t.bs)::own) ⟨u.E.set r.left true,u.Fi.set r.left (aI cU row),u.bs.set r.left (id,.cells false ((aI cU row).map a6.cell)),ag⟩)
      (((is,aC.cells false [.int .i64 g.ae,.int .i64 g.az,.int .i64 g.start,.slice a m c,.slice (some ⟨C,0,none⟩) g.az (if g.az=0 then 0 else 1),.slice (some ⟨io,0,none⟩) g.az 1])::(io,.cells false s.vs)::(C,.cells false ((u.E.map a6.cell).set (0+r.left*1) (.bool true)))::u.bs.set r.left (id,.cells false ((aI cU row).map a6.cell)))::own):=by
     intro ag;refine ah.flat ?_;dsimp only;rw[SW,yo,R9];exact ri _
    refine WT.split 57 Z (λh3=>?_) (λh3=>?_)
    ·have ab:aI cU row≠cU:=SU h3;refine aq ?_;refine WT.split 61 Z (λh4=>?_) (λh4=>?_)
     ·refine aq ?_;refine WT.cz (j:=r.left) (s:=1) hT Z Z Z Z Z Z Z Z Z ac ?_;refine WT.loadAt hT 2 Z Z Z Z Z Z (ma _ (ma _ me)) Z Z be ?_;refine aq ?_;refine AW.cond Z (λh5=>?_) (λh5=>?_)
      ·have h5:e0=false:=by simpa using h5
       refine aq ?_;refine WT.cz (j:=r.left) (s:=1) hT Z Z Z Z Z Z Z Z Z ac ?_;refine WT.storeAt hT 2 2 Z Z Z Z Z Z Z Z Z Z (by simp;omega) Z Z ?_;refine aq ?_;exact⟨_,sM,ah.skip _ (ah.skip _ (bf true)),done _ true (.inr ⟨rfl,h5,rfl,h4⟩) (λ_=>rfl) (λ_=>rfl) (λ_=>.inr (.inr (by subst h5;exact oF a1))) (λh=>(by cases h))⟩
      ·have h5:e0=true:=by simpa using h5
       refine aq ?_;exact⟨⟨u.E,u.Fi.set r.left (aI cU row),u.bs.set r.left (id,.cells false ((aI cU row).map a6.cell)),true⟩,sM,c7,done _ true (.inl rfl) (λ_=>rfl) (λ_=>rfl) (λ_=>.inr (.inl ab)) (λ_ _=>h5)⟩
     ·refine aq ?_;refine AW.cond Z (λh5=>(by cases h5)) (λ_=>?_);refine aq ?_;exact⟨⟨u.E,u.Fi.set r.left (aI cU row),u.bs.set r.left (id,.cells false ((aI cU row).map a6.cell)),true⟩,sM,c7,done _ true (.inl rfl) (λ_=>rfl) (λ_=>rfl) (λ_=>.inr (.inl ab)) (λ_ he=>(by rw[show bd=false from h4] at he;cases he))⟩
    ·have ab:aI cU row=cU:=by simpa using h3
     refine aq ?_;refine WT.split 61 Z (λh4=>?_) (λh4=>?_)
     ·refine aq ?_;refine WT.cz (j:=r.left) (s:=1) hT Z Z Z Z Z Z Z Z Z ac ?_;refine WT.loadAt hT 2 Z Z Z Z Z Z (ma _ (ma _ me)) Z Z be ?_;refine aq ?_;refine AW.cond Z (λh5=>?_) (λh5=>?_)
      ·have h5:e0=false:=by simpa using h5
       refine aq ?_;refine WT.cz (j:=r.left) (s:=1) hT Z Z Z Z Z Z Z Z Z ac ?_;refine WT.storeAt hT 2 2 Z Z Z Z Z Z Z Z Z Z (by simp;omega) Z Z ?_;refine aq ?_;exact⟨_,sM,ah.skip _ (ah.skip _ (bf true)),done _ true (.inr ⟨rfl,h5,rfl,h4⟩) (λ_=>rfl) (λ_=>rfl) (λ_=>.inr (.inr (by subst h5;exact oF a1))) (λh=>(by cases h))⟩
      ·have h5:e0=true:=by simpa using h5
       refine aq ?_;exact⟨⟨u.E,u.Fi.set r.left (aI cU row),u.bs.set r.left (id,.cells false ((aI cU row).map a6.cell)),u.again⟩,sM,c7,done _ u.again (.inl rfl) (λb0=>absurd ab b0) (λh=>h) (λh=>.inl h) (λ_ _=>h5)⟩
     ·refine aq ?_;refine AW.cond Z (λh5=>(by cases h5)) (λ_=>?_);refine aq ?_;exact⟨⟨u.E,u.Fi.set r.left (aI cU row),u.bs.set r.left (id,.cells false ((aI cU row).map a6.cell)),u.again⟩,sM,c7,done _ u.again (.inl rfl) (λb0=>absurd ab b0) (λh=>h) (λh=>.inl h) (λ_ he=>(by rw[show bd=false from h4] at he;cases he))⟩
   ·intro u F3 ar hP;obtain⟨hR,hM,hE,dl,bn,hC,bo⟩:=hP;rw[pf zo] at hC;refine⟨u,?_,sM,c7,hR,hM,hE,hC,bo⟩;have h1:=DA hM;have h2:=sy u.E;rw[h,nw rfl];split
    ·rename_i h4;have:=bn h4;omega
    ·omega
  ·refine AW.exit ?_;refine AW.ay 0 Z Z (λF3 ar al=>?_);refine aq ?_;have ct:=eD (K:=a6) (R:=fX) (F:=F3) (id:=C) (row:=t.E) (c:=if t.E.length=0 then 0 else 1) (ro:=false) rfl (λ_ _=>rfl) rfl (al C _ (by simp));rw[hE] at ct;have cv:=Abs.Rows.arr (K:=a6) (R:=fX) rfl (λ_ _=>rfl) (F:=F3) (o:=io) (c:=if t.Fi.length=0 then 0 else 1) (ro:=false) hR (λi b hm=>al i b (by simp[hm])) rfl (al io _ (by simp));rw[hM.size,mb zo] at cv
   exact AW.ret ⟨_,[],⟨_,_,rfl,rfl,rfl⟩,bw,rfl,is,t.E,t.Fi,rfl,⟨⟨C,io,_,_,false,al is _ (by simp),ct,cv⟩,hM.row,b7.mono ar,hC h⟩,hJ,hE,hM.size⟩
def E3(g:aj)(E:List Bool)(Fi:List (List Bool)):Prop:=(∀n,E.getD n false=true->Mg g n)/\∀n t,(Fi.getD n []).getD t false=true->Hu g n t
theorem pX:∀{xs ys:List Bool} {t:Nat},(aI xs ys).getD t false=true->xs.getD t false=true\/ys.getD t false=true
 | [],_,_,h=>by simp[aI] at h
 | _::_,[],_,h=>by simp[aI] at h
 | x::xs,y::ys,0,h=>by simp only[aI,TC,List.getD_cons_zero] at h;simpa using h
 | x::xs,y::ys,t+1,h=>by{simp only[aI,TC,List.getD_cons_succ] at h;exact pX (xs:=xs) (ys:=ys) h}
theorem jq:∀{xs ys:List Bool} {t:Nat},xs.length=ys.length->(xs.getD t false=true\/ys.getD t false=true)->(aI xs ys).getD t false=true
 | [],[],_,_,h=>by simp at h
 | [],_::_,_,f,_=>by simp at f
 | _::_,[],_,f,_=>by simp at f
 | x::xs,y::ys,0,_,h=>by simp only[aI,TC,List.getD_cons_zero] at h |-;simpa using h
 | x::xs,y::ys,t+1,f,h=>by{simp only[aI,TC,List.getD_cons_succ] at h |-;exact jq (xs:=xs) (ys:=ys) (by simpa using f) h}
theorem tv{l:List Bool}{n t:Nat}(h:(l.set n true).getD t false=true):t=n\/l.getD t false=true:=by by_cases e:t=n;{exact .inl e};{right;rw[qs,tj (λf=>e f.symm)] at h;rw[qs];exact h}
theorem oV{g:aj}{E:List Bool}{Fi:List (List Bool)}(h:E3 g E Fi):∀(l:List Sym) (out:List Bool),(∀t,(ofRow E Fi out l).1.getD t false=true->out.getD t false=true\/dE g l t)/\((ofRow E Fi out l).2=true->gu g l)
 | [],out=>⟨λt f=>.inl f,λ_=>gu.nil⟩
 | s::l,out=>by{obtain⟨b,n⟩:=s;unfold ofRow;cases b with|true=>{(rw[nw rfl];refine⟨λt f=>?_,λh=>(by cases h)⟩;rcases tv f with rfl | h2);{exact .inr (dE.head (.inl rfl))};{exact .inl h2}}|false=>{rw[mb (by simp)];have i:∀t,(aI out (Fi.getD n [])).getD t false=true->out.getD t false=true\/dE g (⟨false,n⟩::l) t:=λt f=>by{rcases pX f with h2 | h2;{exact .inl h2};{exact .inr (dE.head (.inr ⟨rfl,h.2 n t h2⟩))}};split;{(rename_i j;obtain⟨o,h2⟩:=oV h l (aI out (Fi.getD n []));refine⟨λt f=>?_,λf=>gu.cons rfl (h.1 n j) (h2 f)⟩;rcases o t f with h3 | h3);{exact i t h3};{exact .inr (dE.cons rfl (h.1 n j) h3)}};{exact⟨λt f=>i t f,λh=>(by cases h)⟩}}}
theorem ji{n t:Nat}:¬(List.replicate n false).getD t false=true:=by rw[qs,SI];split<;>simp
theorem E3.zero{g:aj}:E3 g (List.replicate g.az false) (List.replicate g.az (List.replicate g.ae false)):=by refine⟨λn h=>absurd h ji,λn t h=>?_⟩;rw[qs,qs,SI] at h;split at h;{rw[<-qs] at h;exact absurd h ji};{simp at h}
theorem E3.step{g:aj}{E:List Bool}{Fi:List (List Bool)}{r:cb}(o:r∈g.rules)(h:E3 g E Fi){i:List Bool}(j:i=E\/(i=E.set r.left true/\(ofRow E Fi (List.replicate g.ae false) r.right).2=true)) :
  E3 g i (Fi.set r.left (aI (Fi.getD r.left []) (ofRow E Fi (List.replicate g.ae false) r.right).1)):=by obtain⟨p,C⟩:=oV h r.right (List.replicate g.ae false);refine⟨λn f=>?_,λn t f=>?_⟩;{rcases j with rfl | ⟨rfl,he⟩;{exact h.1 n f};{rcases tv f with rfl | h3;{exact .of o (C he)};{exact h.1 n h3}}};{by_cases e:n=r.left;{subst e;rw[qs (l:=Fi.set _ _),Tn] at f;rw[nw rfl] at f;split at f;{rw[Option.getD_some] at f;rcases pX f with h3 | h3;{exact h.2 _ _ h3};{rcases p t h3 with h4 | h4;{exact absurd h4 ji};{exact .of o h4}}};{simp at f}};{rw[qs (l:=Fi.set _ _),tj (λI=>e I.symm),<-qs] at f;exact h.2 n t f}}
section
variable {g:aj}{E:List Bool}{Fi:List (List Bool)}
theorem Bl(f:∀n,n<g.az->(Fi.getD n []).length=g.ae):∀(l:List Sym) (out:List Bool),(∀s∈l,dr g.ae g.az s)->out.length=g.ae->(ofRow E Fi out l).1.length=g.ae
 | [],out,_,h=>h
 | s::l,out,hs,h=>by{unfold ofRow;split;{rw[Su];exact h};{rename_i j;have o:s.n<g.az:=by{have:=hs s me;unfold dr at this;rw[mb j] at this;exact this};have i:(aI out (Fi.getD s.n [])).length=g.ae:=by{rw[gK (by rw[h,f _ o])];exact h};split;{exact Bl f l _ (λx p=>hs x (ma _ p)) i};{exact i}}}
theorem y0(f:∀n,n<g.az->(Fi.getD n []).length=g.ae){t:Nat}:∀(l:List Sym) (out:List Bool),(∀s∈l,dr g.ae g.az s)->out.length=g.ae->out.getD t false=true->(ofRow E Fi out l).1.getD t false=true
 | [],out,_,_,h=>h
 | s::l,out,hs,i,h=>by{unfold ofRow;split;{rw[qs,Tn];split;{split;{rfl};{rename_i C j;subst C;rw[qs,D2 zo] at h;simp at h}};{rw[<-qs];exact h}};{rename_i I;have o:s.n<g.az:=by{have:=hs s me;unfold dr at this;rw[mb I] at this;exact this};have j:(aI out (Fi.getD s.n [])).length=g.ae:=by{rw[gK (by rw[i,f _ o])];exact i};have r:(aI out (Fi.getD s.n [])).getD t false=true:=jq (by rw[i,f _ o]) (.inl h);split;{exact y0 f l _ (λx J=>hs x (ma _ J)) j r};{exact r}}}
theorem rh:∀(l:List Sym) (out:List Bool),(∀s∈l,s.term=false/\E.getD s.n false=true)->(ofRow E Fi out l).2=true
 | [],_,_=>rfl
 | s::l,out,h=>by{obtain⟨f,i⟩:=h s me;unfold ofRow;rw[mb (by rw[f];simp),nw i];exact rh l _ λx j=>h x (ma _ j)}
theorem uf(f:∀n,n<g.az->(Fi.getD n []).length=g.ae){t:Nat}{s:Sym}{post:List Sym}(hs:(s=⟨true,t⟩)\/(s.term=false/\(Fi.getD s.n []).getD t false=true)) :
  ∀(pre:List Sym) (out:List Bool),(∀x∈pre++s::post,dr g.ae g.az x)->out.length=g.ae->(∀x∈pre,x.term=false/\E.getD x.n false=true)->(ofRow E Fi out (pre++s::post)).1.getD t false=true
 | [],out,i,o,_=>by{have j:=i s (R8 _ me);rcases hs with rfl | ⟨r,I⟩;{show (ofRow E Fi out (⟨true,t⟩::post)).1.getD t false=true;unfold ofRow;rw[nw rfl];have ht:t<g.ae:=j;show (out.set t true).getD t false=true;rw[qs,sj zo];rfl};{have C:s.n<g.az:=by{unfold dr at j;rw[mb (by rw[r];simp)] at j;exact j};show (ofRow E Fi out (s::post)).1.getD t false=true;unfold ofRow;rw[mb (by rw[r];simp)];have U:(aI out (Fi.getD s.n [])).length=g.ae:=by{rw[gK (by rw[o,f _ C])];exact o};have P:(aI out (Fi.getD s.n [])).getD t false=true:=jq (by rw[o,f _ C]) (.inr I);split;{exact y0 f post _ (λx hx=>i x (R8 _ (ma _ hx))) U P};{exact P}}}
 | x::pre,out,i,o,R=>by{obtain⟨r,I⟩:=R x me;have l:=i x me;have C:x.n<g.az:=by{unfold dr at l;rw[mb (by rw[r];simp)] at l;exact l};show (ofRow E Fi out (x::(pre++s::post))).1.getD t false=true;unfold ofRow;rw[mb (by rw[r];simp),nw I];exact uf f hs pre _ (λy J=>i y (ma _ J)) (by rw[gK (by rw[o,f _ C])];exact o) λy J=>R y (ma _ J)}
theorem yJ(f:fm g E Fi){n:Nat}(h:Mg g n):E.getD n false=true:=by induction h with| mk i j o l=>{exact(f _ i).2 (rh _ _ λs hs=>⟨j s hs,l s hs⟩)}
theorem xM(J:Valid g)(l:fm g E Fi)(f:∀n,n<g.az->(Fi.getD n []).length=g.ae){t:Nat}:∀{r:cb} {pre post:List Sym} {s:Sym},r∈g.rules->r.right=pre++s::post->gu g pre->((s=⟨true,t⟩)\/(s.term=false/\(Fi.getD s.n []).getD t false=true))->(Fi.getD r.left []).getD t false=true:=by intro r pre post s o e p hs;obtain⟨j,_,i⟩:=J.right r o;rw[e] at i;have P:=uf (E:=E) f (post:=post) hs pre (List.replicate g.ae false) i (by simp) (λx C=>⟨(p x C).1,yJ l (p x C).2⟩);have R:=Bl (E:=E) f (pre++s::post) (List.replicate g.ae false) i (by simp);have I:=(l r o).1;rw[e] at I;rw[<-I];exact jq (by rw[R,f _ j]) (.inr P)
theorem Gr(l:Valid g)(o:fm g E Fi)(f:∀n,n<g.az->(Fi.getD n []).length=g.ae){n t:Nat}(h:Hu g n t):(Fi.getD n []).getD t false=true:=by induction h with| term i e j=>exact xM l o f i e j (.inl rfl)| Js i e j _ p=>{exact xM l o f i e j (.inr ⟨rfl,p⟩)}
structure Gj(g:aj)(E:List Bool)(Fi:List (List Bool)):Prop where
 Oi:E.length=g.az
 QG:Fi.length=g.az
 row:∀r∈Fi,r.length=g.ae
 Pd:∀n,E.getD n false=true↔Mg g n
 v9:∀n t,(Fi.getD n []).getD t false=true↔Hu g n t
theorem Gj.rows(h:Gj g E Fi):∀n,n<g.az->(Fi.getD n []).length=g.ae:=λn f=>by have:=gE (show n<Fi.length by rw[h.QG];exact f);rw[qs,this];exact h.row _ (TS _)
theorem Gj.list(h:Gj g E Fi){l:List Sym}(p:∀s∈l,dr g.ae g.az s):(∀t,(ofRow E Fi (List.replicate g.ae false) l).1.getD t false=true↔dE g l t)/\((ofRow E Fi (List.replicate g.ae false) l).2=true↔gu g l):=by obtain⟨r,C⟩:=oV (E:=E) (Fi:=Fi) ⟨λn f=>(h.Pd n).1 f,λn t i=>(h.v9 n t).1 i⟩ l (List.replicate g.ae false);refine⟨λt=>⟨λi=>(r t i).resolve_left ji,λi=>?_⟩,C,λf=>rh _ _ λs hs=>⟨(f s hs).1,(h.Pd _).2 (f s hs).2⟩⟩;obtain⟨pre,s,post,rfl,f,I⟩:=i;exact uf h.rows (I.imp id λj=>⟨j.1,(h.v9 _ _).2 j.2⟩) pre _ p (by simp) λx o=>⟨(f x o).1,(h.Pd _).2 (f x o).2⟩
end
theorem Gn(F:aw)(g:aj)(j:Valid g){a:Option Addr}{m c:Nat}(I:a7 cO F a m c g.rules) :
  Abs.Spec CC 131 [.agg ⟨ak g a m c⟩] F [] λl v o=>o=[]/\∃is E Fi,v=.pointer (some ⟨is,0,none⟩)/\yA l is g a m c E Fi/\Gj g E Fi:=
 (G6 F g j (E3 g) E3.zero (λE Fi r hm h U i=>h.step hm i) I).mono λl v o _ ⟨J,is,E,Fi,P,f,p,R,C⟩=>by refine⟨J,is,E,Fi,P,f,R,C,f.row,λn=>⟨p.1 n,yJ f.closed⟩,λn t=>⟨p.2 n t,Gr j f.closed λk hk=>?_⟩⟩;have:=gE (show k<Fi.length by rw[C];exact hk);rw[qs,this];exact f.row _ (TS _)
end Go.Proofs.D
set_option linter.unusedVariables false
set_option maxRecDepth 20000
set_option maxHeartbeats 0
open Go Go.Abs Go.Proofs Go.Proofs.D
namespace Go.Abs
section
variable {C:Ctx}{T:RT}{t:TypeId}{κ:Type}[DecidableEq κ](K:oW C t κ)
variable {n:Nat}{k:bY}{F:aw}{own:bH}{ops rest:List Oper}{o:Oper}{Q:bY->aw->bH->List Rec->Prop}
theorem WT.H0(hT:aP C T=true){j l:TypeId}{p I:Operand}{i:Nat}{m:bS κ}{key:κ}{r:Row}{z:Value}{d:Nat}(f:o.op=.lookup j p I false)(hw:aH ops k o=some true)(g:o.dst=some d)(J:Nat.blt d n=true)
  (hm:aW C k p=some (.map (some i))) (hk:aW C k I=some (K.key key)) (P:F i=some (.map (aK K m))) (R:rowOf T j=some r) (U:r.d=.map t l) (hz:gq T l=some z)
  (h1:WT C n ops rest ((d,(Abs.look m key).getD z)::k) F own (λk2 F2 own2 rs=>Q k2 F2 own2 (⟨F,own,F,own,[i]⟩::rs))):WT C n ops (o::rest) k F own Q:=by have hl:bg (aW C k) o.op=some [i]:=by{rw[f];simp only[bg,hm]};refine WT.still hw hl (λh0 s0=>?_) (by rw[g,aA J];exact h1);exact iC K hT f hm hk R U hz (s0.z4 i _ P) rfl
end
end Go.Abs
namespace Go.Proofs.D
theorem z6(F:aw)(g:aj)(P:Valid g){a:Option Addr}{m c:Nat}(U:a7 cO F a m c g.rules)(x:Nat)(hx:x<=g.rules.length) :
  Abs.Spec CC 144 [.agg ⟨ak g a m c⟩,.int .i64 x] F [] λF' v o=>o=[]/\∃b n d,v=.slice b n d/\a7 gW F' b n d (bF g x):=by have ad:=U.len;have ae:=P.range.rules;unfold ak;refine Abs.Spec.fn (n:=32) Tryz.func144 rfl rfl λown=>?_;refine AW.seq (AW.fj ?_);refine WT.bZ Z Z Z Z Z Z (λi2 af=>?_);refine aq ?_;refine AW.block (aq ?_);refine AW.cond Z (λh=>?_) (λh=>?_);{have h:x=g.rules.length:=by{simp at h;omega};refine aq ?_;refine WT.aX Tryz.func84 Z Z Z Z Z Z (sD _ _) (λv i=>?_);subst i;refine WT.aS hT Z Z Z Z Z Z Z Z Z Z Z Z Z Z (λi5 ag=>?_);refine aq ?_;refine AW.ay 0 Z Z (λF2 j C=>?_);have hb:cu gW F (some ⟨i5,0,none⟩) 1 2 [(i5,.cells false [.bool false,.int .i64 g.start])] [⟨false,g.start⟩]:=⟨rfl,.inr ⟨i5,_,rfl,rfl,rfl,aF.single (R:=gW) (x:=⟨false,g.start⟩) rfl,by decide⟩⟩;refine AW.ret ⟨_,[],⟨_,_,rfl,rfl,rfl⟩,bw,rfl,_,_,_,rfl,?_⟩;rw[h,fD];exact hb.frozen j C};{have h:x<m:=by{simp at h;omega};refine aq ?_;refine AW.cond Z (λh=>(by simp at h;omega)) (λ_=>?_);refine aq ?_;refine WT.bk hT U Z Z Z Z Z Z Z Z Z zo (λr l b5 aa ao ap ar av ax f=>?_);obtain⟨ra,rn,rc,rfl,t⟩:=f;have ab:=t.len;have az:=(P.right r (gM l)).2.1;refine aq ?_;refine WT.mA Tryz.func107 Z Z Z Z Z Z (qG _ t zo) (λF2 v B2 j i=>?_);obtain⟨ca,cc,rfl,i⟩:=i;refine aq ?_;refine AW.ay 0 Z Z (λF3 I J=>?_);refine AW.ret ⟨_,[],⟨_,_,rfl,rfl,rfl⟩,bw,rfl,_,_,_,rfl,?_⟩;rw[dV l];exact i.arr I J}
theorem ON(p q:Lr):(((p.aB:Int)==(q.aB:Int))&&(((p.dot:Int)==(q.dot:Int))&&true))=decide (p=q):=by rw[Td];obtain⟨a,b⟩:=p;obtain⟨f,b'⟩:=q;simp only[ti,S6,SC,Lr.mk.injEq,Uw];omega
noncomputable def ej:oW CC 181 Lr where
 key:=λx=>.agg ⟨[.int .i64 x.aB,.int .i64 x.dot]⟩
 ok:=λp=>Ct hT 8 _ _ rfl
 eq:=λp q=>by
  have h:qv CC 8 181 (.agg ⟨[.int .i64 p.aB,.int .i64 p.dot]⟩) (.agg ⟨[.int .i64 q.aB,.int .i64 q.dot]⟩)=some (decide (p=q)):=by
   rw[<-ON];exact Cl hT 8 _ _ _ _ rfl
  by_cases e:p=q
  ·exact .inl ⟨e,by rw[h];simp[e]⟩
  ·exact .inr ⟨e,by rw[h];simp[e]⟩
def KR(es:bS Lr)(x:Lr):Value:=(Abs.look es x).getD (.int .u32 0)
def P8(es:bS Lr)(x:Lr):Value:=(Abs.look es x).getD (.bool false)
noncomputable def bM(g:aj)(x:Lr):Nat:=bB (dE g (cD g x)) g.ae
noncomputable def eM(g:aj)(x:Lr):Bool:=@decide (gu g (cD g x)) (Classical.propDecidable _)
structure kU(F:aw)(im:Nat)(g:aj)(ra:Option Addr)(rm rc:Nat)(E:List Bool)(Fi:List (List Bool))(is:Nat)(eb ee:bS Lr):Prop where
 cf:∃ib ie ro,F im=some (.cells ro [.int .i64 g.ae,.int .i64 g.az,.int .i64 g.start,.slice ra rm rc,.pointer (some ⟨is,0,none⟩),.map (some ib),.map (some ie)])/\F ib=some (.map (aK ej eb))/\F ie=some (.map (aK ej ee))
 oQ:yA F is g ra rm rc E Fi
 PZ:Gj g E Fi
 v9:∀x y,bj g x=some y->KR eb x=.int .u32 (bM g x:Nat)
 Pd:∀x y,bj g x=some y->P8 ee x=.bool (eM g x)
structure QY where
 eb:bS Lr
 ee:bS Lr
def rQ(g:aj)(r d:Nat)(x:Lr):Prop:=(x.aB<r/\x.dot<(bF g x.aB).length)\/(x.aB=r/\x.dot<d)
def PQ(g:aj)(D:Lr->Prop)(f i:bS Lr):Prop:=∀x,(D x->KR f x=.int .u32 (bM g x:Nat)/\P8 i x=.bool (eM g x))/\(¬D x->KR f x=.int .u32 0)
theorem PQ.congr{g:aj}{D i:Lr->Prop}{j l:bS Lr}(h:PQ g D j l)(o:∀x,D x↔i x):PQ g i j l:=λx=>⟨λf=>(h x).1 ((o x).2 f),λf=>(h x).2 λp=>f ((o x).1 p)⟩
theorem w9(es:bS Lr)(k x:Lr)(v:Value):KR (cy es k v) x=if x=k then v else KR es x:=by unfold KR;rw[fR];split<;>rfl
theorem Fm(es:bS Lr)(k x:Lr)(v:Value):P8 (cy es k v) x=if x=k then v else P8 es x:=by unfold P8;rw[fR];split<;>rfl
theorem x8{x t:Nat}(h:x<2 ^ t):x ||| 1*2 ^ t=x+2 ^ t:=by have:=Nat.two_pow_add_eq_or_of_lt h 1;rw[R9] at this;rw[S2,Nat.or_comm,<-this,U1]
theorem yA.mono{F G:aw}{is:Nat}{g:aj}{i:Option Addr}{j rc:Nat}{E:List Bool}{Fi:List (List Bool)}(h:yA F is g i j rc E Fi)(f:aw.le F G):yA G is g i j rc E Fi:=by obtain⟨l,io,ce,co,ro,o,p,r⟩:=h.cf;exact⟨⟨l,io,ce,co,ro,f _ _ o,p.mono f,r.mono f⟩,h.row,h.rules.mono f,h.closed⟩
theorem lP(F:aw)(g:aj)(hg:Valid g){a:Option Addr}{m c:Nat}(hr:a7 cO F a m c g.rules) :
  Abs.Spec CC 95 [.agg ⟨ak g a m c⟩] F [] λF' v o=>o=[]/\∃im E Fi is eb ee,v=.pointer (some ⟨im,0,none⟩)/\kU F' im g a m c E Fi is eb ee:=by have c4:=hr.len;have c5:=hg.range.rules;have c6:=hg.range.ae;have c8:=hg.range.az;unfold ak;refine Abs.Spec.fn (n:=78) Tryz.func95 rfl rfl λown=>?_;refine AW.seq (AW.fj ?_);refine WT.bZ Z Z Z Z Z Z (λi1 c9=>?_);refine aq ?_;refine AW.draw (ps:=[(0,2),(0,3),(0,4),(1,3),(1,4)]) Z Z (aq ?_);have bc:=Gn F g hg hr;unfold ak at bc;refine WT.bO Tryz.func131 Z Z Z Z Z Z bc (λF1 v bx hv=>?_);obtain⟨is,E,Fi,rfl,hS,be⟩:=hv;refine WT.makeMap Z Z Z Z (λib dd=>?_);refine WT.makeMap Z Z Z Z (λie df=>?_);refine aq ?_;refine WT.bZ Z Z Z Z Z Z (λim dl=>?_);refine aq ?_;refine⟨k9,?_⟩;refine aq ?_;refine AW.range (S:=QY) (λ_=>[]) (λs=>[(im,.cells false [.int .i64 g.ae,.int .i64 g.az,.int .i64 g.start,.slice a m c,.pointer (some ⟨is,0,none⟩),.map (some ib),.map (some ie)])]::[(ie,.map (aK ej s.ee))]::[(ib,.map (aK ej s.eb))]::[(i1,.cells false [.int .i64 g.ae,.int .i64 g.az,.int .i64 g.start,.slice a m c])]::own) (λj s G=>PQ g (rQ g j 0) s.eb s.ee) (m+1) ⟨[],[]⟩ Z Z Z Z Z Z Z Z Z zo rfl rfl (λ_=>rfl) (λ_=>rfl) sM oR (λx=>⟨λh=>(by unfold rQ at h;omega),λ_=>rfl⟩) ?_ ?_;{intro j s F2 af hj hI;have b1:=(hr.mono bx).mono af;refine aq ?_;have bf:=z6 F2 g hg b1 j zo;unfold ak at bf;refine WT.bO Tryz.func144 Z Z Z Z Z Z bf (λF3 v a1 hv=>?_);obtain⟨ya,yn,yc,rfl,hy⟩:=hv;have ds:=hy.len;have av:=uN hg j;have dv:(bF g j).length<=4:=by{unfold bF;split;{simp};{cases hq:g.rules[j]? with|none=>simp|some r=>{exact(hg.right r (gM hq)).2.1}}};refine aq ?_;refine AW.range (S:=QY) (λ_=>[]) (λs=>[(im,.cells false [.int .i64 g.ae,.int .i64 g.az,.int .i64 g.start,.slice a m c,.pointer (some ⟨is,0,none⟩),.map (some ib),.map (some ie)])]::[(ie,.map (aK ej s.ee))]::[(ib,.map (aK ej s.eb))]::[(i1,.cells false [.int .i64 g.ae,.int .i64 g.az,.int .i64 g.start,.slice a m c])]::own) (λe s G=>PQ g (rQ g j e) s.eb s.ee) yn s Z Z Z Z Z Z Z Z Z zo rfl rfl (λ_=>rfl) (λ_=>rfl) sM oR hI ?_ ?_;{intro e s F4 ab he hI;have bi:=hy.mono ab;have ac:=(af.trans a1).trans ab;refine ai ?_;obtain⟨ra,rc,b3,bl⟩:=bi.slice (C:=CC) (lo:=e+1) (hi:=yn) zo (mc _) hT (t:=87) Z Z Z (some (.int .i64 ((e+1:Nat):Int))) none (by simp[dc];omega) rfl;refine WT.slice Z Z Z Z Z Z Z Z b3 ?_;rw[pf zo] at bl;have b4:=hS.cf;obtain⟨d1,d2,d3,d4,d5,b6,b7,bn⟩:=b4;have f:=be.list (l:=(bF g j).drop (e+1)) (λy hy=>av y (TL hy));refine WT.mA Tryz.func133 Z Z Z Z Z Z (y4 F4 (ac _ _ b6) (b7.mono ac) (bn.mono ac) hS.row zo bl zo (λy hy=>av y (TL hy))) (λF5 v B5 al hv=>?_);obtain⟨ir,rfl,P,rfl⟩:=hv;refine WT.ay 0 Z Z (λF6 d7 b9=>?_);have U:a7 fX F6 (some ⟨ir,0,none⟩) g.ae (if g.ae=0 then 0 else 1) (ofRow E Fi (List.replicate g.ae false) ((bF g j).drop (e+1))).1:=by{have:=eD (K:=a6) (R:=fX) (F:=F6) (id:=ir) (row:=(ofRow E Fi (List.replicate g.ae false) ((bF g j).drop (e+1))).1) (c:=if (ofRow E Fi (List.replicate g.ae false) ((bF g j).drop (e+1))).1.length=0 then 0 else 1) (ro:=false) rfl (λ_ _=>rfl) rfl (b9 ir _ me);rw[P] at this;exact this};have a2:(bF g j).drop (e+1)=cD g ⟨j,e⟩:=rfl;rw[a2] at f U P |-;generalize ofRow E Fi (List.replicate g.ae false) (cD g ⟨j,e⟩)=fr at f U P |-;obtain⟨row,a3⟩:=fr;dsimp only at f U P;have ca:KR s.eb ⟨j,e⟩=.int .u32 0:=(hI ⟨j,e⟩).2 (by unfold rQ;dsimp only;omega);refine ai ?_;refine WT.aG hT Z Z Z Z Z Z (λi9 d9=>?_);refine ai ?_;refine AW.range (S:=bS Lr) (λ_=>[]) (λeb=>[(i9,.cells false [.int .i64 j,.int .i64 e])]::[]::[(im,.cells false [.int .i64 g.ae,.int .i64 g.az,.int .i64 g.start,.slice a m c,.pointer (some ⟨is,0,none⟩),.map (some ib),.map (some ie)])]::[(ie,.map (aK ej s.ee))]::[(ib,.map (aK ej eb))]::[(i1,.cells false [.int .i64 g.ae,.int .i64 g.az,.int .i64 g.start,.slice a m c])]::own) (λt eb G=>(∀x,x≠⟨j,e⟩->KR eb x=KR s.eb x)/\KR eb ⟨j,e⟩=.int .u32 (bB (dE g (cD g ⟨j,e⟩)) t:Nat)) g.ae s.eb Z Z Z Z Z Z Z Z Z zo rfl rfl (λ_=>rfl) (λ_=>rfl) sM oR ⟨λ_ _=>rfl,ca⟩ ?_ ?_;{intro t eb F7 bo ht a4;obtain⟨J,aa⟩:=a4;have a5:=U.mono bo;refine ai ?_;refine WT.bk hT a5 Z Z Z Z Z Z Z Z Z zo (λok cc b5 c0 ec eh cg em en a8=>?_);obtain rfl:cg=_:=a8;have ax:ok=true↔dE g (cD g ⟨j,e⟩) t:=by{rw[<-f.1 t,qs,cc];rfl};refine ai ?_;refine AW.cond Z (λh=>?_) (λh=>?_);{have ch:=ax.1 h;have ck:=iF (dE g (cD g ⟨j,e⟩)) t;have br:bB (dE g (cD g ⟨j,e⟩)) (t+1)=bB (dE g (cD g ⟨j,e⟩)) t+2 ^ t:=by{show _+(if _ then 2 ^ t else 0)=_;rw[nw (@decide_eq_true _ (Classical.propDecidable _) ch)]};refine AW.draw (ps:=[(5,9),(8,9)]) Z Z (ai ?_);refine WT.y8 ej hT 4 (m:=eb) (key:=⟨j,e⟩) Z Z Z Z Z Z Z me Z Z Z (WT.dk (v':=.int .u32 (bB (dE g (cD g ⟨j,e⟩)) t:Nat)) 62 Z (by exact aa) (ai ?_));have eo:2 ^ t<=256:=LN (R4 (by decide) (show t<=8 by omega)) (by decide);refine WT.Au (x:=1) (y:=t) Z Z Z Z Z Z zo zo (WT.y5 (x:=bB (dE g (cD g ⟨j,e⟩)) t) (y:=1*2 ^ t) Z Z Z Z Z Z zo zo (WT.dk (v':=.int .u32 (bB (dE g (cD g ⟨j,e⟩)) (t+1):Nat)) 65 Z (by rw[br,x8 ck]) (WT.mapEntry ej hT 4 0 (m:=eb) (key:=⟨j,e⟩) Z Z Z Z Z Z Z Z Z Z Z Z Z (ai ?_))));refine WT.entryStore ej 4 0 (m:=kP eb ⟨j,e⟩ (.int .u32 0)) (key:=⟨j,e⟩) Z Z Z Z (by rw[pW];rfl) Z Z Z (ky _ _ _) Z Z ?_;rw[pE];refine ai ?_;refine⟨uu rfl rfl (by decide) (λI s2=>iC ej hT (m2:=kP eb ⟨j,e⟩ (.int .u32 0)) Z Z Z Z Z Z (s2.has (p:=4) rfl me) (by rw[ky];rfl)) (lU rfl rfl Ei trivial),?_⟩;refine⟨cy eb ⟨j,e⟩ (.int .u32 (bB (dE g (cD g ⟨j,e⟩)) (t+1):Nat)),sM,c7,λx hx=>?_,?_⟩;{rw[w9,mb hx];exact J x hx};{rw[w9,nw rfl]}};{have cn:¬dE g (cD g ⟨j,e⟩) t:=λI=>by{rw[ax.2 I] at h;cases h};refine ai ?_;refine⟨eb,sM,c7,J,?_⟩;rw[aa];show _=Value.int .u32 ((_+(if _ then 2 ^ t else 0):Nat):Int);rw[mb (λI=>cn (@of_decide_eq_true _ (Classical.propDecidable _) I)),Tc]}};{intro eb F7 bo a4;obtain⟨J,aa⟩:=a4;refine ai ?_;refine WT.yM ej hT 3 0 (m:=s.ee) (key:=⟨j,e⟩) Z Z Z Z Z Z Z Z Z Z Z Z (ai ?_);refine⟨⟨eb,cy s.ee ⟨j,e⟩ (.bool a3)⟩,sM,c7,λx=>?_⟩;have bs:a3=eM g ⟨j,e⟩:=by{unfold eM;cases a3 with|true=>{exact(@decide_eq_true _ (Classical.propDecidable _) (f.2.1 rfl)).symm}|false=>{exact(@decide_eq_false _ (Classical.propDecidable _) (λh=>by have:=f.2.2 h;cases this)).symm}};by_cases hx:x=⟨j,e⟩;{subst hx;refine⟨λ_=>⟨aa,?_⟩,λh=>absurd (.inr ⟨rfl,Sp _⟩) h⟩;rw[Fm,nw rfl,bs]};{obtain⟨h1,I⟩:=hI x;have hD:rQ g j (e+1) x↔rQ g j e x:=by{obtain⟨xr,xd⟩:=x;unfold rQ;simp only[Lr.mk.injEq,not_and] at hx;constructor;{rintro(h | ⟨h3,h4⟩);{exact .inl h};{exact .inr ⟨h3,by have:=hx h3;have h4:xd<e+1:=h4;show xd<e;omega⟩}};{rintro(h | ⟨h3,h4⟩);{exact .inl h};{exact .inr ⟨h3,by dsimp only at h4 |-;omega⟩}}};refine⟨λh=>?_,λh=>?_⟩;{obtain⟨h3,h4⟩:=h1 (hD.1 h);refine⟨by rw[J x hx];exact h3,?_⟩;rw[Fm,mb hx];exact h4};{rw[J x hx];exact I λh3=>h (hD.2 h3)}}}};{intro s F4 ab hI;refine⟨s,sM,c7,hI.congr λx=>?_⟩;unfold rQ;constructor;{rintro(⟨h1,I⟩ | ⟨h1,I⟩);{exact .inl ⟨by omega,I⟩};{exact .inl ⟨by omega,by rw[h1];omega⟩}};{rintro(⟨h1,I⟩ | ⟨h1,I⟩);{by_cases h3:x.aB<j;{exact .inl ⟨h3,I⟩};{obtain h3:x.aB=j:=by{omega};exact .inr ⟨h3,by rw[h3] at I;omega⟩}};{omega}}}};{intro s F2 af hI;refine ai ?_;refine AW.ay 0 Z Z (λF3 a1 co=>?_);refine AW.ay 1 Z Z (λF4 ab cp=>?_);refine AW.ay 2 Z Z (λF5 al cs=>?_);have ad:∀x y,bj g x=some y->rQ g (m+1) 0 x:=λx y h=>by{rw[cq] at h;have I:=(gS h).1;refine .inl ⟨?_,I⟩;rcases AT g.rules.length x.aB with h3 | h3;{unfold bF at I;rw[mb zo,D2 (l:=g.rules) (i:=x.aB) zo] at I;simp at I};{omega}};have bt:=((af.trans a1).trans ab).trans al;refine AW.ret ⟨_,[],⟨_,_,rfl,rfl,rfl⟩,bw,rfl,im,E,Fi,is,s.eb,s.ee,rfl,⟨ib,ie,false,al _ _ (ab _ _ (co im _ me)),cs ib _ me,al _ _ (cp ie _ me)⟩,hS.mono bt,be,λx y h=>((hI x).1 (ad x y h)).1,λx y h=>((hI x).1 (ad x y h)).2⟩}
noncomputable def jS(g:aj)(x:Lr)(m:Nat):Nat:=if eM g x=true then bM g x ||| m else bM g x
theorem Mb(g:aj)(x:Lr):bM g x<2 ^ (g.ae+1):=Sk (iF _ _) (R4 (by decide) (Nat.le_succ _))
theorem LW{g:aj}{x:Lr}{m:Nat}(h:m<2 ^ (g.ae+1)):jS g x m<2 ^ (g.ae+1):=by unfold jS;split;{exact Tx (Mb g x) h};{exact Mb g x}
theorem uF{g:aj}(l:Valid g){x:Lr}{m t:Nat}:(jS g x m).testBit t=true↔dE g (cD g x) t\/(gu g (cD g x)/\m.testBit t=true):=by have j:(bM g x).testBit t=true↔dE g (cD g x) t:=by{unfold bM;rw[ef];exact⟨λh=>h.2,λh=>⟨pz l h,h⟩⟩};have he:eM g x=true↔gu g (cD g x):=⟨λh=>@of_decide_eq_true _ (Classical.propDecidable _) h,λh=>@decide_eq_true _ (Classical.propDecidable _) h⟩;unfold jS;split;{rename_i h;rw[S5,SO,j];exact⟨λf=>f.imp id λi=>⟨he.1 h,i⟩,λf=>f.imp id λi=>i.2⟩};{rename_i h;rw[j];exact⟨.inl,λf=>f.resolve_right λi=>h (he.2 i.1)⟩}
theorem ku{g:aj}(f:g.ae<=8):2 ^ (g.ae+1)<=512:=LN (R4 (by decide) (show g.ae+1<=9 by omega)) (by decide)
theorem JG(F:aw)(g:aj)(t:Valid g){i is:Nat}{a:Option Addr}{m c:Nat}{E:List Bool}{Fi:List (List Bool)}{j l:bS Lr}(f:kU F i g a m c E Fi is j l)(x:Lr){y:Sym}(r:bj g x=some y)(s:Nat)(hs:s<2 ^ (g.ae+1)) :
  Abs.Spec CC 190 [.pointer (some ⟨i,0,none⟩),.agg ⟨[.int .i64 x.aB,.int .i64 x.dot,.int .u32 s]⟩] F [] λ_ v o=>o=[]/\v=.int .u32 (jS g x s:Nat):=by obtain⟨U,ie,ro,h1,C,I⟩:=f.cf;have J:=f.v9 x y r;have he:=f.Pd x y r;have hp:=ku t.range.ae.2;have P:=Mb g x;refine Abs.Spec.fn (n:=25) Tryz.func190 rfl rfl λown=>?_;refine AW.seq (AW.fj ?_);refine WT.bZ Z Z Z Z Z Z (λi3 R=>?_);refine ai ?_;refine WT.H0 ej hT (m:=j) (key:=x) Z Z Z Z Z Z C Z Z Z (WT.dk (v':=.int .u32 (bM g x:Nat)) 12 Z (by exact J) (ai ?_));refine WT.H0 ej hT (m:=l) (key:=x) Z Z Z Z Z Z I Z Z Z (WT.dk (v':=.bool (eM g x)) 19 Z (by exact he) (ai ?_));refine AW.cond Z (λh=>?_) (λh=>?_);{refine ai ?_;refine WT.y5 (x:=bM g x) (y:=s) Z Z Z Z Z Z zo zo (ai ?_);refine AW.ret ⟨_,[],⟨_,_,rfl,rfl,rfl⟩,bw,rfl,?_⟩;unfold jS;rw[nw h];rfl};{refine ai ?_;refine AW.ret ⟨_,[],⟨_,_,rfl,rfl,rfl⟩,bw,rfl,?_⟩;unfold jS;rw[mb (by rw[h];simp)];rfl}
def Hf(g:aj)(es:bS Lr)(S:Lr->Nat):Prop:=∀z,KR es z=.int .u32 (S z:Nat)/\S z<2 ^ (g.ae+1)
def rD(S:Lr->Nat)(x:Lr)(v:Nat):Lr->Nat:=λz=>if z=x then v else S z
theorem Hf.put{g:aj}{es:bS Lr}{S:Lr->Nat}(h:Hf g es S)(x:Lr){v:Nat}(f:v<2 ^ (g.ae+1)):Hf g (cy es x (.int .u32 (v:Nat))) (rD S x v):=λz=>by rw[w9];unfold rD;split;{exact⟨rfl,f⟩};{exact h z}
structure Ri where
 a:Option Addr
 m:Nat
 c:Nat
 B:List (Nat×aC)
 es:bS Lr
def H7(l:List aM)(S:Lr->Nat):Prop:=∀z t,(S z).testBit t=true↔∃m,(⟨z,m⟩:aM)∈l/\m.testBit t=true
theorem DJ(l:List aM)(x:aM):aD (l++[x])=aD l++[x.item]:=by unfold aD;simp
theorem H7.snoc{l:List aM}{S:Lr->Nat}(h:H7 l S)(x:aM):H7 (l++[x]) (rD S x.item (S x.item ||| x.set)):=λz t=>by obtain⟨i,xs⟩:=x;unfold rD;constructor;{intro h1;split at h1;{rename_i e;subst e;rw[S5,SO] at h1;rcases h1 with h1 | h1;{obtain⟨m,h2,f⟩:=(h z t).1 h1;exact⟨m,IT _ h2,f⟩};{exact⟨xs,R8 _ (SH _),h1⟩}};{obtain⟨m,h2,f⟩:=(h z t).1 h1;exact⟨m,IT _ h2,f⟩}};{rintro⟨m,h2,f⟩;rcases AI.1 h2 with h2 | h2;{have g:=(h z t).2 ⟨m,h2,f⟩;split;{rename_i e;dsimp only at e |-;rw[e] at g;rw[S5,g];rfl};{exact g}};{have e:=n0.1 h2;simp only[aM.mk.injEq] at e;obtain⟨rfl,rfl⟩:=e;rw[nw rfl,S5,f,Bool.or_true]}}
theorem kU.mono{F G:aw}{i is:Nat}{g:aj}{a:Option Addr}{m c:Nat}{E:List Bool}{Fi:List (List Bool)}{j l:bS Lr}(h:kU F i g a m c E Fi is j l)(f:aw.le F G):kU G i g a m c E Fi is j l:=by obtain⟨o,p,ro,r,t,C⟩:=h.cf;exact⟨⟨o,p,ro,f _ _ r,f _ _ t,f _ _ C⟩,h.oQ.mono f,h.PZ,h.v9,h.Pd⟩
theorem NA{g:aj}{x:Lr}(h:gf g x):Nc g x:=by refine⟨h.1,?_⟩;have f:=h.2;unfold bF at f;split at f;{rename_i e;rw[nw e];exact f};{rename_i e;rw[mb e];cases i:g.rules[x.aB]? with|none=>{rw[i] at f;exact f}|some r=>{rw[i] at f;exact f}}
structure QB where
 es:bS Lr
 S:Lr->Nat
 again:Bool
def Io(g:aj)(l:List aM)(S:Lr->Nat):Prop:=∀z t,(S z).testBit t=true->wo g l z t
def OY(g:aj)(S:Lr->Nat)(x:Lr):Prop:=∀(k:Nat) (r:cb),bj g x=some ⟨false,r.left⟩->g.rules[k]?=some r->∀t,(jS g x (S x)).testBit t=true->(S ⟨k,0⟩).testBit t=true
def wS(g:aj)(S:Lr->Nat):Nat:=((List.range g.rules.length).map λk=>512-S ⟨k,0⟩).sum
theorem zh{f h:Nat->Nat}:∀{n i:Nat},i<n->(∀j,j≠i->f j=h j)->f i<h i->((List.range n).map f).sum<((List.range n).map h).sum
 | 0,_,hi,_,_=>by omega
 | n+1,i,hi,he,g=>by{rw[Tp,R1,R1,Tf,Tf];simp only[y2,U2,Sv,List.sum_nil,Tc];by_cases e:i=n;{subst e;have:(List.range i).map f=(List.range i).map h:=SY λj l=>he j (by have:=Sr.1 l;omega);rw[this];omega};{have r:=zh (n:=n) (i:=i) zo he g;have t:=he n (λo=>e o.symm);omega}}
theorem I4(S:Lr->Nat)(x:Lr)(v:Nat):rD S x v x=v:=by unfold rD;rw[nw rfl]
theorem MQ{S:Lr->Nat}{x z:Lr}{v:Nat}(h:z≠x):rD S x v z=S z:=by unfold rD;rw[mb h]
theorem Ot{g:aj}{S:Lr->Nat}{k v:Nat}(hk:k<g.rules.length)(f:∀z,S z<512)(o:v<512)(i:S ⟨k,0⟩<v):wS g (rD S ⟨k,0⟩ v)<wS g S:=by unfold wS;refine zh hk (λj l=>?_) ?_;{rw[MQ (λe=>l (by injection e))]};{rw[I4];have:=f ⟨k,0⟩;omega}
theorem NW{x y:Nat}(h:andNot y x≠0)(f:x<4294967296)(g:y<4294967296):x<x ||| y:=by refine Nat.lt_of_le_of_ne Nat.left_le_or λe=>h ?_;rw[jD g f];intro j i;rw[e,S5,i,Bool.or_true]
theorem Io.put{g:aj}{l:List aM}{S:Lr->Nat}(h:Io g l S){x:Lr}{v:Nat}(i:∀t,v.testBit t=true->wo g l x t):Io g l (rD S x (S x ||| v)):=λz t f=>by unfold rD at f;split at f;{rename_i e;subst e;rw[S5,SO] at f;exact f.elim (h _ t) (i t)};{exact h z t f}
theorem Is{S:Lr->Nat}{x:Lr}{v:Nat}{z:Lr}{t:Nat}(h:(S z).testBit t=true):(rD S x (S x ||| v) z).testBit t=true:=by unfold rD;split;{rename_i e;rw[<-e,S5,h];rfl};{exact h}
theorem oi(F:aw)(g:aj)(hg:Valid g){im is:Nat}{a:Option Addr}{m c:Nat}{E:List Bool}{Fi:List (List Bool)}{eb ee:bS Lr}(hM:kU F im g a m c E Fi is eb ee)
  {b:Option Addr} {n d:Nat} {l:List aM} (hl:a7 cL F b n d l) (hn:n<=1000) (I:∀x∈l,gf g x.item/\x.set<2 ^ (g.ae+1)) :
  Abs.Spec CC 147 [.pointer (some ⟨im,0,none⟩),.slice b n d] F [] λF' v o=>o=[]/\∃a' n' c',v=.slice a' n' c'/\a7 cL F' a' n' c' (bN g l):=by obtain⟨ib,ie,ro,h1,h2,h3⟩:=hM.cf;have hp:=ku hg.range.ae.2;have gd:=hl.len;have hr:=hM.oQ.rules;have gl:=hr.len;have gm:=hg.range.rules;refine Abs.Spec.fn (n:=134) Tryz.func147 rfl rfl λown=>?_;refine ai ?_;refine WT.makeMap Z Z Z Z (λiq gs=>?_);refine ai ?_;refine AW.range (S:=Ri) (λs=>[(5,.slice s.a s.m s.c)]) (λs=>s.B::[(iq,.map (aK ej s.es))]::own) (λj s G=>cu gg G s.a s.m s.c s.B (aD (l.take j))/\∃S,Hf g s.es S/\H7 (l.take j) S) n ⟨none,0,0,[],[]⟩ Z Z Z Z Z Z Z Z Z zo rfl rfl (λ_=>rfl) (λ_=>rfl) sM (ah.flat (ri _)) ⟨cu.dF _ _,λ_=>0,λz=>⟨rfl,SV _⟩,λz t=>by simp⟩ ?_ ?_;{intro j s F1 a9 hj hI;obtain⟨hb,S,hS,hB⟩:=hI;have d5:=hl.mono a9;have ag:=hb.len;unfold aD at ag;rw[sh,R5] at ag;refine ai ?_;refine WT.bk hT d5 Z Z Z Z Z Z Z Z Z zo (λx al b1 b4 cv cx ba c0 c1 J=>?_);obtain rfl:ba=_:=J;obtain⟨c2,d6⟩:=I x (gM al);have an:l.take (j+1)=l.take j++[x]:=by{rw[yf,al];rfl};refine ai ?_;refine WT.aG hT Z Z Z Z Z Z (λi8 g1=>?_);refine ai ?_;refine WT.aS hT Z Z Z Z Z Z Z Z Z Z Z Z Z Z (λi33 c4=>?_);refine WT.bu (R:=gg) (ys:=[x.item]) hT 2 hb Z (λ_=>rfl) Z Z Z Z Z Z Z Z Z Z Z (λh0 s0=>aT hT s0 0 Z Z Z Z) (aF.single (R:=gg) (x:=x.item) rfl) Z (by decide) gT (λa3 c3 B3 ca=>?_);refine ai ?_;refine AW.draw (ps:=[(3,7),(6,7)]) Z Z (ai ?_);refine WT.y8 ej hT 3 (m:=s.es) (key:=x.item) Z Z Z Z Z Z Z me Z Z Z (WT.dk (v':=.int .u32 (S x.item:Nat)) 38 Z (by exact(hS x.item).1) ?_);have ec:=(hS x.item).2;refine ai ?_;refine WT.y5 (x:=S x.item) (y:=x.set) Z Z Z Z Z Z zo zo (WT.mapEntry ej hT 3 0 (m:=s.es) (key:=x.item) Z Z Z Z Z Z Z Z Z Z Z Z Z (ai ?_));refine WT.entryStore ej 3 0 (m:=kP s.es x.item (.int .u32 0)) (key:=x.item) Z Z Z Z (by rw[pW];rfl) Z Z Z (ky _ _ _) Z Z ?_;rw[pE];refine ai ?_;refine⟨uu rfl rfl (by decide) (λh2 s2=>iC ej hT (m2:=kP s.es x.item (.int .u32 0)) Z Z Z Z Z Z (s2.has (p:=3) rfl me) (by rw[ky];rfl)) (lU rfl rfl Ei trivial),?_⟩;refine⟨⟨a3,s.m+1,c3,B3,cy s.es x.item (.int .u32 (S x.item ||| x.set:Nat))⟩,sM,c7,?_,rD S x.item (S x.item ||| x.set),hS.put _ (Tx ec d6),?_⟩;{rw[an,DJ];exact ca};{rw[an];exact hB.snoc x}};{intro s F1 a9 hI;obtain⟨hb,S,hS,hB⟩:=hI;rw[pf zo] at hb hB;refine AW.ay 0 Z Z (λF2 bn eh=>?_);have cc:=hb.frozen bn eh;have ag:=hb.len;unfold aD at ag;rw[sh] at ag;have c5:=(hr.mono a9).mono bn;have em:=(hM.mono a9).mono bn;have en:=bn _ _ (a9 _ _ h1);have a2:∀x∈aD l,gf g x:=λx hx=>by{obtain⟨y,hy,rfl⟩:=tx.1 hx;exact(I y hy).1};refine ai ?_;have c6:=BG F2 g hg c5 cc zo (λx hx=>NA (a2 x hx));unfold ak at c6;refine WT.bO Tryz.func189 Z Z Z Z Z Z c6 (λF3 v cg hv=>?_);obtain⟨a8,m8,c8,zs,rfl,hz,g5,dd,df⟩:=hv;obtain rfl:zs=eT g (aD l):=ss a2 dd df;have g6:=hz.len;have ep:=c5.mono cg;have et:=em.mono cg;have ev:=cg _ _ en;refine ai ?_;refine AW.block (AW.cr (S:=QB) (λs=>[(11,.bool s.again)]) (λs=>[]::[(iq,.map (aK ej s.es))]::own) (λs G=>Hf g s.es s.S/\Io g l s.S/\(∀z t,(∃m,(⟨z,m⟩:aM)∈l/\m.testBit t=true)->(s.S z).testBit t=true)/\(s.again=false->∀x∈eT g (aD l),OY g s.S x)) (λs=>if s.again=true then 1+wS g s.S else 0) ⟨s.es,S,true⟩ sM oR ⟨hS,λz t P=>?_,λz t P=>(hB z t).2 P,λh=>(by cases h)⟩ ?_);{obtain⟨m,h4,h5⟩:=(hB z t).1 P;refine .base h4 h5 ?_;have:=(I _ h4).2;rcases AT g.ae t with h6 | h6;{rw[Tl (Sk this (R4 (by decide) h6))] at h5;cases h5};{exact h6}};intro s F4 bs hI;obtain⟨hS,bb,bc,av⟩:=hI;have dl:=hz.mono bs;have ex:=ep.mono bs;have ey:=et.mono bs;have e0:=bs _ _ ev;refine ai ?_;refine AW.cond Z (λh=>?_) (λh=>?_);{refine ai ?_;refine AW.block (ai ?_);refine AW.range (S:=QB) (λs=>[(11,.bool s.again)]) (λs=>[]::[(iq,.map (aK ej s.es))]::own) (λj u G=>Hf g u.es u.S/\Io g l u.S/\(∀z t,(s.S z).testBit t=true->(u.S z).testBit t=true)/\wS g u.S<=wS g s.S/\(u.again=true->wS g u.S<wS g s.S)/\(u.again=false->u.S=s.S/\∀x∈(eT g (aD l)).take j,OY g s.S x)) m8 ⟨s.es,s.S,false⟩ Z Z Z Z Z Z Z Z Z zo rfl rfl (λ_=>rfl) (λ_=>rfl) sM oR ⟨hS,bb,λ_ _ h=>h,mc _,λh=>(by cases h),λ_=>⟨rfl,by simp⟩⟩ ?_ ?_;{intro j u F5 ad hj hI;obtain⟨ao,C,f,ax,af,U⟩:=hI;have ch:=dl.mono ad;have ds:=ex.mono ad;have e3:=ey.mono ad;have g7:=ad _ _ e0;refine ai ?_;refine WT.bk hT ch Z Z Z Z Z Z Z Z Z zo (λx al b1 b4 cv cx ba c0 c1 J=>?_);obtain rfl:ba=_:=J;have ck:=gM al;have c2:=kA x ck;have an:(eT g (aD l)).take (j+1)=(eT g (aD l)).take j++[x]:=by{rw[yf,al];rfl};refine ai ?_;refine WT.aG hT Z Z Z Z Z Z (λi13 fx=>?_);refine ai ?_;refine AW.draw (ps:=[(3,9),(4,9)]) Z Z (ai ?_);have dv:=iJ F5 g (λr h=>by have:=(hg.right r h).2.1;omega) ds zo x (by have:=c2.1;omega);unfold ak at dv;refine WT.aX Tryz.func150 Z Z Z Z Z Z dv (λv hv=>?_);obtain⟨y,bo,rfl,ap,e4⟩:=hv;obtain⟨yt,yn⟩:=y;refine ai ?_;refine WT.aG hT Z Z Z Z Z Z (λi14 f1=>?_);refine ai ?_;refine⟨k9,?_⟩;refine ai ?_;have bd:(∀n,bj g x≠some ⟨false,n⟩)->u.again=false->u.S=s.S/\∀z∈(eT g (aD l)).take (j+1),OY g s.S z:=λe6 aa=>by{(obtain⟨q1,q2⟩:=U aa;refine⟨q1,λz hz=>?_⟩;rw[an] at hz;rcases AI.1 hz with hz | hz);{exact q2 z hz};{rw[n0.1 hz];exact λk r h1 _ _ _=>absurd h1 (e6 _)}};refine WT.split 72 Z (λI=>?_) (λI=>?_);{have I:bo=false:=by{simpa using I};refine ai ?_;refine AW.cond Z (λ_=>?_) (λh=>(by simp at h));refine AW.exit ⟨u,sM,c7,ao,C,f,ax,af,bd λn h=>?_⟩;rw[e4 I] at h;cases h};{have I:bo=true:=by{simpa using I};subst I;refine ai ?_;refine AW.cond Z (λh3=>?_) (λh3=>?_);{have h3:yt=true:=by{simpa using h3};refine AW.exit ⟨u,sM,c7,ao,C,f,ax,af,bd λn h=>?_⟩;rw[ap rfl,h3] at h;cases h};have h3:yt=false:=by{simpa using h3};subst h3;have ap:=ap rfl;refine ai ?_;refine WT.nu ej hT 3 (m:=u.es) (key:=x) Z Z Z Z Z Z Z me Z Z Z (WT.dk (v':=.int .u32 (u.S x:Nat)) 80 Z (by exact(ao x).1) ?_);have b7:=(ao x).2;refine ai ?_;refine WT.aX Tryz.func190 Z Z Z Z Z Z (JG F5 g hg e3 x ap (u.S x) b7) (λv hv=>?_);subst hv;have b8:=LW (g:=g) (x:=x) b7;refine ai ?_;refine AW.range (S:=QB) (λs=>[(11,.bool s.again)]) (λs=>[(i14,aC.cells false [.bool false,.int .i64 yn])]::[(i13,aC.cells false [.int .i64 x.aB,.int .i64 x.dot])]::[]::[(iq,.map (aK ej s.es))]::own) (λj v G=>Hf g v.es v.S/\Io g l v.S/\(∀z t,(s.S z).testBit t=true->(v.S z).testBit t=true)/\wS g v.S<=wS g s.S/\(v.again=true->wS g v.S<wS g s.S)/\(v.again=false->u.again=false/\v.S=u.S/\∀(k:Nat) (r:cb),k<j->bj g x=some ⟨false,r.left⟩->g.rules[k]?=some r->∀t,(jS g x (u.S x)).testBit t=true->(v.S ⟨k,0⟩).testBit t=true)) m u Z Z Z Z Z Z Z Z Z zo rfl rfl (λ_=>rfl) (λ_=>rfl) sM oR ⟨ao,C,f,ax,af,λh=>⟨h,rfl,λk r h=>absurd h (SJ _)⟩⟩ ?_ ?_;{intro k v F6 bv hk hI;obtain⟨ar,ab,i,az,a0,ac⟩:=hI;have e7:=ds.mono bv;refine ai ?_;refine WT.bk hT e7 Z Z Z Z Z Z Z Z Z zo (λr cn b5 f3 g8 ha hd he hf co=>?_);obtain⟨ra,rn,rc,rfl,hh⟩:=co;refine ai ?_;refine WT.aG hT Z Z Z Z Z Z (λi18 f4=>?_);refine ai ?_;refine WT.aG hT Z Z Z Z Z Z (λi19 f5=>?_);refine ai ?_;have bx:=ar ⟨k,0⟩;have be:∀z,v.S z<512:=λz=>Sk (ar z).2 hp;refine WT.split 101 Z (λhl=>?_) (λhl=>?_);{have hl:r.left=yn:=by{simp at hl;omega};refine ai ?_;refine WT.nu ej hT 5 (m:=v.es) (key:=⟨k,0⟩) Z Z Z Z Z Z Z me Z Z Z (WT.dk (v':=.int .u32 (v.S ⟨k,0⟩:Nat)) 105 Z (by exact bx.1) (WT.oN (x:=jS g x (u.S x)) (y:=v.S ⟨k,0⟩) Z Z Z Z Z Z zo (by have:=be ⟨k,0⟩;omega) (ai ?_)));refine AW.cond Z (λhc=>?_) (λhc=>?_);{have hc:andNot (jS g x (u.S x)) (v.S ⟨k,0⟩)≠0:=by{simpa using hc};refine ai ?_;refine AW.draw (ps:=[(2,5),(4,5)]) Z Z (ai ?_);refine WT.y8 ej hT 5 (m:=v.es) (key:=⟨k,0⟩) Z Z Z Z Z Z Z me Z Z Z (WT.dk (v':=.int .u32 (v.S ⟨k,0⟩:Nat)) 111 Z (by exact bx.1) (ai ?_));refine WT.y5 (x:=v.S ⟨k,0⟩) (y:=jS g x (u.S x)) Z Z Z Z Z Z (by have:=be ⟨k,0⟩;omega) zo (WT.mapEntry ej hT 5 0 (m:=v.es) (key:=⟨k,0⟩) Z Z Z Z Z Z Z Z Z Z Z Z Z (ai ?_));refine WT.entryStore ej 5 0 (m:=kP v.es ⟨k,0⟩ (.int .u32 0)) (key:=⟨k,0⟩) Z Z Z Z (by rw[pW];rfl) Z Z Z (ky _ _ _) Z Z ?_;rw[pE];refine ai ?_;refine⟨uu rfl rfl (by decide) (λh2 s2=>iC ej hT (m2:=kP v.es ⟨k,0⟩ (.int .u32 0)) Z Z Z Z Z Z (s2.has (p:=5) rfl me) (by rw[ky];rfl)) (lU rfl rfl Ei trivial),?_⟩;refine ai ?_;have d0:=ar.put ⟨k,0⟩ (Tx bx.2 b8);have hw:=Ot (g:=g) (S:=v.S) (k:=k) (v:=v.S ⟨k,0⟩ ||| jS g x (u.S x)) zo be (Sk (Tx bx.2 b8) hp) (NW hc (by have:=be ⟨k,0⟩;omega) zo);refine⟨⟨cy v.es ⟨k,0⟩ (.int .u32 (v.S ⟨k,0⟩ ||| jS g x (u.S x):Nat)),rD v.S ⟨k,0⟩ (v.S ⟨k,0⟩ ||| jS g x (u.S x)),true⟩,sM,c7,d0,ab.put λt P=>?_,λz t P=>Is (i z t P),by dsimp only;omega,λ_=>by dsimp only;omega,λh=>by cases h⟩;rcases (uF hg).1 P with h7 | ⟨h7,h8⟩;{exact .v9 ((cJ a2).1 ck) (hl▸ap) cn h7};{exact .pass ((cJ a2).1 ck) (hl▸ap) cn h7 (C _ _ h8)}};{have hc:andNot (jS g x (u.S x)) (v.S ⟨k,0⟩)=0:=by{simpa using hc};(refine ai ?_;refine⟨v,sM,c7,ar,ab,i,az,a0,λaa=>?_⟩;obtain⟨q1,q2,q3⟩:=ac aa;refine⟨q1,q2,λk2 r2 e8 e1 e2 t P=>?_⟩;rcases AT k2 k with h6 | h6);{exact q3 k2 r2 h6 e1 e2 t P};{obtain rfl:k2=k:=by{omega};exact(jD zo (by have:=be ⟨k2,0⟩;omega)).1 hc t P}}};{have hl:r.left≠yn:=by{simp at hl;omega};(refine ai ?_;refine AW.cond Z (λhc=>(by simp at hc)) (λ_=>?_);refine ai ?_;refine⟨v,sM,c7,ar,ab,i,az,a0,λaa=>?_⟩;obtain⟨q1,q2,q3⟩:=ac aa;refine⟨q1,q2,λk2 r2 e8 e1 e2 t P=>?_⟩;rcases AT k2 k with h6 | h6);{exact q3 k2 r2 h6 e1 e2 t P};{obtain rfl:k2=k:=by{omega};rw[cn] at e2;rw[ap] at e1;simp only[pr,Sym.mk.injEq] at e1 e2;exact absurd (by rw[e2];exact e1.2.symm) hl}}};{(intro v F6 bv hI;obtain⟨ar,ab,i,az,a0,ac⟩:=hI;refine⟨v,sM,c7,ar,ab,i,az,a0,λaa=>?_⟩;obtain⟨q1,q2,q3⟩:=ac aa;obtain⟨q4,q5⟩:=U q1;refine⟨by rw[q2,q4],λz hz=>?_⟩;rw[an] at hz;rcases AI.1 hz with hz | hz);{exact q5 z hz};{rw[n0.1 hz];intro k r e1 e2 t P;rw[<-q4] at P |-;rw[<-q2];exact q3 k r (by have:=(gS e2).1;omega) e1 e2 t P}}}};{intro u F5 ad hI;obtain⟨ao,C,f,ax,af,U⟩:=hI;rw[pf zo] at U;refine⟨u,?_,sM,c7,ao,C,λz t P=>f z t (bc z t P),λaa=>?_⟩;{rw[nw h];split;{rename_i aa;have:=af aa;omega};{omega}};{obtain⟨q1,q2⟩:=U aa;rw[q1];exact q2}}};{refine AW.exit ?_;have av:=av h;have d2:∀z,s.S z=bB (wo g l z) (g.ae+1):=λz=>by{refine Ar (hS z).2 λt=>⟨λP=>⟨Nat.lt_succ_of_le ((bb z t P).le hg),bb z t P⟩,λP=>?_⟩;have fa:=P.2;clear P;induction fa with| base h4 h5 _=>exact bc _ _ ⟨_,h4,h5⟩| v9 h4 h5 h6 h7=>exact av _ ((cJ a2).2 h4) _ _ h5 h6 _ ((uF hg).2 (.inl h7))| pass h4 h5 h6 h7 _ ih=>{exact av _ ((cJ a2).2 h4) _ _ h5 h6 _ ((uF hg).2 (.inr ⟨h7,ih⟩))}};refine ai ?_;refine AW.range (S:=Ri) (λu=>[(20,.slice u.a u.m u.c)]) (λu=>u.B::[]::[(iq,.map (aK ej s.es))]::own) (λj u G=>cu cL G u.a u.m u.c u.B (((eT g (aD l)).take j).map λz=>⟨z,bB (wo g l z) (g.ae+1)⟩)) m8 ⟨none,0,0,[],[]⟩ Z Z Z Z Z Z Z Z Z zo rfl rfl (λ_=>rfl) (λ_=>rfl) sM (ah.flat (ri _)) (cu.dF _ _) ?_ ?_;{intro j u F5 ad hj hb;have ch:=dl.mono ad;have ag:=hb.len;rw[sh,R5] at ag;refine ai ?_;refine WT.bk hT ch Z Z Z Z Z Z Z Z Z zo (λx al b1 b4 cv cx ba c0 c1 J=>?_);obtain rfl:ba=_:=J;have an:(eT g (aD l)).take (j+1)=(eT g (aD l)).take j++[x]:=by{rw[yf,al];rfl};refine ai ?_;refine WT.aG hT Z Z Z Z Z Z (λi22 f7=>?_);refine ai ?_;refine WT.nu ej hT 3 (m:=s.es) (key:=x) Z Z Z Z Z Z Z me Z Z Z (WT.dk (v':=.int .u32 (bB (wo g l x) (g.ae+1):Nat)) 128 Z (by rw[<-d2 x];exact(hS x).1) (ai ?_));refine WT.aS hT Z Z Z Z Z Z Z Z Z Z Z Z Z Z (λi33 c4=>?_);refine WT.bu (R:=cL) (ys:=[⟨x,bB (wo g l x) (g.ae+1)⟩]) hT 2 hb Z (λ_=>rfl) Z Z Z Z Z Z Z Z Z Z Z (λh0 s0=>aT hT s0 0 Z Z Z Z) (aF.single (R:=cL) (x:=⟨x,bB (wo g l x) (g.ae+1)⟩) rfl) Z (by decide) gT (λa3 c3 B3 ca=>?_);refine ai ?_;refine⟨⟨a3,u.m+1,c3,B3,[]⟩,sM,c7,?_⟩;dsimp only;rw[an,R1];exact ca};{intro u F5 ad hb;rw[pf zo] at hb;refine AW.ay 0 Z Z (λF6 bv fb=>?_);refine ai ?_;exact AW.ret ⟨_,[],⟨_,_,rfl,rfl,rfl⟩,bw,rfl,_,_,_,rfl,hb.frozen bv fb⟩}}}
noncomputable def qF(g:aj)(st:List aM)(y:Sym):Option (List aM):=if cG g st y=[] then none else some (bN g (cG g st y))
theorem wZ{g:aj}{st:List aM}{y:Sym}{j:Nat}{x:aM}(h:st[j]?=some x):cG g (st.take (j+1)) y=cG g (st.take j) y++(if bj g x.item=some y then [⟨⟨x.item.aB,x.item.dot+1⟩,x.set⟩] else []):=by unfold cG;rw[yf,h,Ut];congr 1;simp only[Ui,T9,List.filterMap_nil];by_cases e:bj g x.item=some y;{rw[nw e,nw e]};{rw[mb e,mb e]}
theorem DE{g:aj}{st:List aM}{y:Sym}{B:Nat}(h:∀x∈st,x.set<B):∀x∈cG g st y,gf g x.item/\x.set<B:=λx f=>by refine⟨?_,?_⟩;{have:=fB (g:=g) (st:=aD st) (y:=y) x.item (by rw[<-eH];exact tx.2 ⟨x,f,rfl⟩);exact this.1};{obtain⟨z,m⟩:=x;obtain⟨j,i,_,_⟩:=pO.1 f;exact(h _ i:m<B)}
theorem KF{g:aj}(f:Valid g){x:Lr}(h:gf g x):x.dot<=100:=by have:=(Pf f h).2;omega
structure QV where
 a:Option Addr
 m:Nat
 c:Nat
 B:List (Nat×aC)
 l:List aM
theorem Pn{p:Prop} (h:p:=by{refine WT.aG hT Z Z Z Z Z Z (λi9 hi9=>?_);refine ai ?_;refine AW.draw (ps:=[(3,10),(5,10)]) Z Z ?_;refine ai ?_;have haf:=iJ F1 g hg4 hr1 zo x.item (by have:=hxo.1;omega);unfold ak at haf;refine WT.aX Tryz.func150 Z Z Z Z Z Z haf (λv hv=>?_);obtain⟨z,bo,rfl,hay,han⟩:=hv;obtain⟨zt,zn⟩:=z;refine ai ?_;refine WT.aG hT Z Z Z Z Z Z (λi10 hi10=>?_);refine ai ?_;refine⟨k9,?_⟩;refine ai ?_;have hbl:=hb.len;refine WT.split 30 Z (λhbo=>?_) (λhbo=>?_);{have hay:=hay hbo;refine ai ?_;refine AW.cond Z (λh=>?_) (λh=>?_);{have e:(⟨zt,zn⟩:Sym)=⟨yt,yn⟩:=by{simp only[Uc,ti,S6] at h;obtain⟨h1,h2⟩:=h;subst h1;congr 1;omega};rw[e] at hay;have hxd:=KF hg hxo;refine ai ?_;refine WT.aS hT Z Z Z Z Z Z Z Z Z Z Z Z Z Z (λi37 hi37=>?_);refine WT.bu (R:=cL) (ys:=[(⟨⟨x.item.aB,x.item.dot+1⟩,x.set⟩:aM)]) hT 3 hb Z (λ_=>rfl) Z Z Z Z Z Z Z Z Z Z Z (λh0 s0=>aT hT s0 0 Z Z Z Z) (aF.single (R:=cL) (x:=⟨⟨x.item.aB,x.item.dot+1⟩,x.set⟩) rfl) Z (by decide) gT (λa3 c3 B3 hB3=>?_);refine ai ?_;refine⟨⟨a3,s.m+1,c3,B3,s.l++[⟨⟨x.item.aB,x.item.dot+1⟩,x.set⟩]⟩,sM,c7,hB3,?_,by dsimp only;omega⟩;show s.l++_=_;rw[hkt,nw hay,hsk]};{have hno:¬bj g x.item=some ⟨yt,yn⟩:=λe=>by{rw[hay] at e;have e:=mm e;simp only[Sym.mk.injEq] at e;rw[e.1,e.2] at h;simp at h};refine ai ?_;refine⟨s,sM,c7,hb,?_,by omega⟩;rw[hkt,mb hno,R3];exact hsk}};{have han:=han hbo;have hno:¬bj g x.item=some ⟨yt,yn⟩:=λe=>by{rw[han] at e;cases e};refine ai ?_;refine AW.cond Z (λh=>(by cases h)) (λ_=>?_);refine ai ?_;refine⟨s,sM,c7,hb,?_,by omega⟩;rw[hkt,mb hno,R3];exact hsk}}):p:=h
theorem Hj(F:aw)(g:aj)(hg:Valid g){im is:Nat}{a:Option Addr}{m c:Nat}{E:List Bool}{Fi:List (List Bool)}{eb ee:bS Lr}(hM:kU F im g a m c E Fi is eb ee)
  {b:Option Addr} {n d:Nat} {st:List aM} (t:a7 cL F b n d st) (hn:n<=1000) (C:∀x∈st,gf g x.item/\x.set<2 ^ (g.ae+1)) (y:Sym) :
  Abs.Spec CC 99 [.pointer (some ⟨im,0,none⟩),.slice b n d,.agg ⟨[.bool y.term,.int .i64 y.n]⟩] F [] λF' v o=>o=[]/\∃a' n' c' z s,v=.tuple ⟨[.slice a' n' c',.bool z]⟩/\a7 cL F' a' n' c' s/\qF g st y=if z=true then some s else none:=by have a1:=hg.range.rules;have hr:=hM.oQ.rules;have a2:=hr.len;have a4:=t.len;have hg4:∀r∈g.rules,r.right.length<=100:=λr h=>by{have:=(hg.right r h).2.1;omega};obtain⟨ib,ie,ro,h1,h2,h3⟩:=hM.cf;obtain⟨yt,yn⟩:=y;refine Abs.Spec.fn (n:=56) Tryz.func99 rfl rfl λown=>?_;refine AW.seq (AW.fj ?_);refine WT.bZ Z Z Z Z Z Z (λi4 a5=>?_);refine ai ?_;refine AW.range (S:=QV) (λs=>[(8,.slice s.a s.m s.c)]) (λs=>s.B::[(i4,.cells false [.bool yt,.int .i64 yn])]::own) (λj s G=>cu cL G s.a s.m s.c s.B s.l/\s.l=cG g (st.take j) ⟨yt,yn⟩/\s.m<=j) n ⟨none,0,0,[],[]⟩ Z Z Z Z Z Z Z Z Z zo rfl rfl (λ_=>rfl) (λ_=>rfl) sM (ah.flat (ri _)) ⟨cu.dF _ _,rfl,mc _⟩ ?_ ?_;{intro j s F1 f hj hP;obtain⟨hb,hsk,ac⟩:=hP;have I:=t.mono f;have hr1:=hr.mono f;have a9:=f _ _ h1;refine ai ?_;refine WT.bk hT I Z Z Z Z Z Z Z Z Z zo (λx J b1 off ba cs lx bc bd P=>?_);obtain rfl:lx=_:=P;have hxo:=(C x (gM J)).1;have hkt:=wZ (g:=g) (y:=⟨yt,yn⟩) J;refine ai ?_;exact Pn};{intro s F1 f hP;obtain⟨hb,hsk,ac⟩:=hP;rw[pf zo] at hsk;have hbl:=hb.len;have ad:=hM.mono f;refine AW.ay 0 Z Z (λF2 U af=>?_);have hx:=hb.frozen U af;have al:=ad.mono U;have i:=DE (g:=g) (y:=⟨yt,yn⟩) (λx hx=>(C x hx).2);rw[<-hsk] at i;refine ai ?_;refine AW.cond Z (λh=>?_) (λh=>?_);{have h:s.m=0:=by{simp at h;omega};refine ai ?_;refine AW.ret ⟨_,[],⟨_,_,rfl,⟨_,_,rfl,rfl,rfl⟩,rfl⟩,bw,rfl,none,0,0,false,[],rfl,a7.dF _ _,?_⟩;unfold qF;rw[nw (by rw[<-hsk];exact Ub.1 zo)];rfl};{have h:0<s.m:=by{simp at h;omega};refine ai ?_;refine WT.bO Tryz.func147 Z Z Z Z Z Z (oi F2 g hg al hx zo i) (λF3 v bf hv=>?_);obtain⟨a8,m8,c8,rfl,hz⟩:=hv;refine ai ?_;refine AW.ret ⟨_,[],⟨_,_,rfl,⟨_,_,rfl,rfl,rfl⟩,rfl⟩,bw,rfl,a8,m8,c8,true,_,rfl,hz,?_⟩;unfold qF;rw[mb (by rw[<-hsk];intro e;rw[e] at hbl;simp at hbl;omega),hsk];rfl}}
theorem ve(F:aw)(g:aj)(j:Valid g){I is:Nat}{a:Option Addr}{m c:Nat}{E:List Bool}{Fi:List (List Bool)}{eb ee:bS Lr}(l:kU F I g a m c E Fi is eb ee) :
  Abs.Spec CC 97 [.pointer (some ⟨I,0,none⟩)] F [] λF' v o=>o=[]/\∃J P U,v=.slice J P U/\a7 cL F' J P U (ew g):=by have af:=j.range.rules;have r:=j.range.ae;have hr:=l.oQ.rules;have t:=hr.len;obtain⟨ib,ie,ro,h1,h2,h3⟩:=l.cf;have al:2 ^ g.ae<=256:=LN (R4 (by decide) r.2) (by decide);refine Abs.Spec.fn (n:=20) Tryz.func97 rfl rfl λown=>?_;refine ai ?_;refine WT.Au (x:=1) (y:=g.ae) Z Z Z Z Z Z zo zo (ai ?_);refine WT.aS hT Z Z Z Z Z Z Z Z Z Z Z Z Z Z (λi37 aa=>?_);refine WT.ay 0 Z Z (λF2 f i=>?_);have hb:cu cL F (some ⟨i37,0,none⟩) 1 3 [(i37,.cells false (PT ⟨⟨g.rules.length,0⟩,2 ^ g.ae⟩))] [⟨⟨g.rules.length,0⟩,2 ^ g.ae⟩]:=⟨rfl,.inr ⟨i37,_,rfl,rfl,rfl,aF.single (R:=cL) (x:=⟨⟨g.rules.length,0⟩,2 ^ g.ae⟩) rfl,by decide⟩⟩;have C:=hb.frozen f (by rw[S2,t] at i;exact i);refine WT.bO Tryz.func147 Z Z Z Z Z Z (oi F2 g j (l.mono f) C zo (λx C=>?_)) (λF3 v ap hv=>?_);{rw[n0.1 C];exact⟨iQ _ (SH _),TK (by decide) (Sp _)⟩};obtain⟨a8,m8,c8,rfl,hz⟩:=hv;refine ai ?_;exact AW.ret ⟨_,[],⟨_,_,rfl,rfl,rfl⟩,bw,rfl,a8,m8,c8,rfl,hz⟩
def fK(l:List aM):List Value:=(l.map PT).flatten
theorem Jw(l:List aM):(fK l).length=l.length*3:=by unfold fK;induction l with|nil=>rfl|cons x l f=>{simp only[y2,So,q0,If,f];show 3+_=_;omega}
theorem Ej:∀{l:List aM} {j:Nat} {x:aM},l[j]?=some x->(fK l)[0+j*3+2]?=some (.int .u32 (x.set:Nat))/\∀v:Nat,(fK l).set (0+j*3+2) (.int .u32 (v:Nat))=fK (l.set j ⟨x.item,v⟩)
 | [],_,_,h=>by simp at h
 | y::l,0,x,h=>by{simp only[Tv,pr] at h;subst h;exact⟨rfl,λv=>rfl⟩}
 | y::l,j+1,x,h=>by{obtain⟨f,g⟩:=@Ej l j x (by simpa using h);have e:fK (y::l)=.int .i64 y.item.aB::.int .i64 y.item.dot::.int .u32 (y.set:Nat)::fK l:=rfl;rw[show 0+(j+1)*3+2=(0+j*3+2)+1+1+1 by omega,e];refine⟨f,λv=>?_⟩;have:=g v;rw[S7,S7,S7,this];rfl}
theorem oY{F:aw}:∀l:List aM,aF cL F (fK l) l
 | []=>.nil
 | x::l=>.cons (R:=cL) (rfl:cL.rel F (PT x) x) (oY l)
structure LT(vs:List Value)(bs:List (Nat×aC))(L:List (List aM)):Prop where
 Qu:vs.length=L.length
 PH:bs.length=L.length
 at_:∀k l,L[k]?=some l->∃id,vs[0+k*1]?=some (.slice (some ⟨id,0,none⟩) l.length 3)/\bs[k]?=some (id,.cells false (fK l))
theorem LT.set{vs:List Value}{bs:List (Nat×aC)}{L:List (List aM)}(h:LT vs bs L){k id:Nat}{l r:List aM}(hk:L[k]?=some l)(C:r.length=l.length)(I:bs[k]?=some (id,.cells false (fK l))):LT vs (bs.set k (id,.cells false (fK r))) (L.set k r):=by have f:=(gS hk).1;refine⟨by rw[Su];exact h.Qu,by rw[Su,Su];exact h.PH,λj x o=>?_⟩;by_cases e:j=k;{subst e;rw[sj f] at o;obtain rfl:=mm o;obtain⟨g,p,i⟩:=h.at_ _ _ hk;rw[I] at i;simp only[pr,R7] at i;rw[<-i.1] at p;exact⟨id,by rw[p,C],sj (by rw[h.PH];exact f)⟩};{rw[tj (λt=>e t.symm)] at o;obtain⟨g,p,i⟩:=h.at_ _ _ o;exact⟨g,p,by rw[tj (λt=>e t.symm)];exact i⟩}
structure Rv where
 cur:List aM
 ch:Bool
theorem wV(F:aw){i5 io n:Nat}{vs:List Value}{bs:List (Nat×aC)}{L:List (List aM)}(hL:LT vs bs L)(a9:n=L.length){i:Nat}{row:List aM}(hi:L[i]?=some row)
  {b:Option Addr} {bn bd:Nat} {l:List aM} (hl:a7 cL F b bn bd l) (ba:bn<=1000) (bb:l.length<=row.length) (h1:∀x∈row,x.set<512) (h2:∀x∈l,x.set<512) :
  Abs.Spec CC 154 [.int .i64 i,.slice b bn bd,.pointer (some ⟨i5,0,none⟩)] F [(i5,.cells false [.slice (some ⟨io,0,none⟩) n 1])::(io,.cells false vs)::bs] λ_ v o=>∃B',o=[B']/\(∃ac,B'=(i5,.cells false [.slice (some ⟨io,0,none⟩) n 1])::(io,.cells false vs)::ac/\LT vs ac (L.set i (bq row l)))/\v=.bool (decide (bq row l≠row)):=by have bf:=(gS hi).1;have hlen:=hl.len;obtain⟨id,ad,C⟩:=hL.at_ i row hi;have ae:=(gS C).1;have I:bs.set i (id,.cells false (fK row))=bs:=by{apply Sb;intro k;by_cases e:k=i;{subst e;rw[sj ae,C]};{rw[tj (λJ=>e J.symm)]}};refine Abs.Spec.fn (n:=43) Tryz.func154 rfl rfl λown=>?_;refine ai ?_;refine AW.range (S:=Rv) (λs=>[(6,.bool s.ch)]) (λs=>((i5,.cells false [.slice (some ⟨io,0,none⟩) n 1])::(io,.cells false vs)::bs.set i (id,.cells false (fK s.cur)))::own) (λj s G=>s.cur=bq row (l.take j)/\s.ch=decide (s.cur≠row)) bn ⟨row,false⟩ Z Z Z Z Z Z Z Z Z zo rfl rfl (λ_=>rfl) (λ_=>rfl) sM (ah.flat (by dsimp only;rw[I];exact ri _)) ⟨by rw[T3,xx],by simp⟩ ?_ ?_;{intro j s F1 af hj hP;obtain⟨f,P⟩:=hP;have ap:=hl.mono af;obtain⟨r,hr⟩:∃r,row[j]?=some r:=⟨_,gE zo⟩;refine ai ?_;refine WT.bk hT ap Z Z Z Z Z Z Z Z Z zo (λx ag b1 a4 bl bo av br bt R=>?_);obtain rfl:av=_:=R;obtain⟨t,U⟩:=vO hr ag;rw[<-f] at t U;obtain⟨al,ax⟩:=Ej U;have bv:(fK s.cur).length=s.cur.length*3:=Jw _;have a5:s.cur.length=row.length:=by{rw[f];exact yg _ _};have bx:=h1 r (gM hr);have b0:=h2 x (gM ag);have g:(bs.set i (id,aC.cells false (fK s.cur)))[i]?=some (id,.cells false (fK s.cur)):=sj ae;refine ai ?_;refine WT.aG hT Z Z Z Z Z Z (λi8 b2=>?_);refine ai ?_;refine WT.cz (j:=i) (s:=1) hT Z Z Z Z Z Z Z Z Z zo (WT.loadAt hT 1 Z Z Z Z Z Z (ma _ me) Z Z ad (ai ?_));refine WT.cz (j:=j) (s:=3) hT Z Z Z Z Z Z Z Z Z zo (ai ?_);refine WT.loadAt hT 1 Z Z Z Z Z Z (gM (i:=i+2) g) Z Z al (WT.oN (x:=x.set) (y:=r.set) Z Z Z Z Z Z zo zo (ai ?_));refine AW.cond Z (λhc=>?_) (λhc=>?_);{have hc:andNot x.set r.set≠0:=by{simpa using hc};have a8:=NW hc zo zo;refine ai ?_;refine WT.cz (j:=i) (s:=1) hT Z Z Z Z Z Z Z Z Z zo (WT.loadAt hT 1 Z Z Z Z Z Z (ma _ me) Z Z ad (ai ?_));refine WT.cz (j:=j) (s:=3) hT Z Z Z Z Z Z Z Z Z zo (ai ?_);refine WT.loadAt hT 1 Z Z Z Z Z Z (gM (i:=i+2) g) Z Z al (ai ?_);refine WT.y5 (x:=r.set) (y:=x.set) Z Z Z Z Z Z zo zo (WT.cz (j:=j) (s:=3) hT Z Z Z Z Z Z Z Z Z zo (ai ?_));refine WT.storeAt hT 1 (i+2) Z Z Z Z Z Z g Z Z Z zo Z Z (ai ?_);refine⟨⟨bq row (l.take (j+1)),true⟩,sM,ah.skip _ (ah.flat ?_),rfl,?_⟩;{dsimp only;rw[t,<-ax (r.set ||| x.set)];show (((i5,aC.cells false _)::(io,aC.cells false _)::(bs.set i _).set i _)++_).Perm _;rw[List.set_set];exact ri _};{refine(Us ?_).symm;dsimp only;rw[t];intro e;have J:(s.cur.set j ⟨r.item,r.set ||| x.set⟩)[j]?=row[j]?:=by{rw[e]};rw[sj zo,hr] at J;have e3:=congrArg aM.set (mm J);dsimp only at e3;omega}};{have hc:andNot x.set r.set=0:=by{simpa using hc};have ab:bq row (l.take (j+1))=s.cur:=by{have e:r.set ||| x.set=r.set:=by{apply TJ;intro k;rw[S5];cases hx:x.set.testBit k with|false=>{rw[Bool.or_false]}|true=>{rw[(jD zo zo).1 hc k hx];rfl}};rw[t,e];apply Sb;intro k;by_cases J:k=j;{subst J;rw[sj zo,U]};{rw[tj (λe3=>J e3.symm)]}};refine ai ?_;exact⟨s,sM,c7,ab.symm,P⟩}};{intro s F1 af hP;obtain⟨f,P⟩:=hP;rw[pf zo] at f;refine ai ?_;refine AW.ret ⟨_,[_],⟨_,_,rfl,rfl,rfl⟩,Sa _,_,rfl,⟨_,rfl,?_⟩,?_⟩;{rw[f];exact hL.set hi (yg _ _) C};{rw[P,f];rfl}}
end Go.Proofs.D