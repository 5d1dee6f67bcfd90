/-
  Walks: what functions of the program do, over the abstract machine.
-/
import Derived.Test.YtmbdmfjijofmmaaGreatDoorWk4
import Derived.Sort.Lot0
set_option linter.unusedVariables false
set_option maxRecDepth 20000
set_option maxHeartbeats 0
open Go Go.Abs Go.Proofs Go.Proofs.D
namespace Go.Proofs.D
structure NB where
 xs:List Bool
 B:List (Nat×aC)
def QI(g:aj):Nat->Item->Prop:=λk x=>Cx g.rules k x
structure QE where
 fi:Nat
 ga:Option Addr
 gm:Nat
 gc:Nat
 q:NQ
 s:Jy
 wa:Option Addr
 wn:Nat
 wc:Nat
 BW:List (Nat×aC)
 w:List Nat
 E:List Bool
structure O1(g:aj)(F:aw)(f:QE):Prop where
 rules:a7 cO F f.ga f.gm f.gc g.rules
 ends:Lp g f.E
 La:NF (trimmed f.E g) (QI (trimmed f.E g)) f.q F f.s
 k:f.s.k=f.w.length
 oQ:Ol (trimmed f.E g) f.w (LS f.s)
 word:cu eO F f.wa f.wn f.wc f.BW f.w
 ok:∀t∈f.w,t<g.ae
theorem O1.mono{g:aj}{F G:aw}{f:QE}(h:O1 g F f)(i:aw.le F G):O1 g G f:=⟨h.rules.mono i,h.ends,h.La.mono i,h.k,h.oQ,h.word.mono i,h.ok⟩
structure QH(g:aj)(f:QE)(xs:List Bool):Prop where
 len:xs.length=g.ae+1
 term:∀t,t<g.ae->(xs[t]?=some true↔∃x∈f.s.last,rl (trimmed f.E g).rules x=some ⟨true,t⟩)
 done:xs[g.ae]?=some (jZ g f.w g.start 0 f.w.length)
structure P3 where
 k:Nat
 lists:List (List Item)
 sa:Option Addr
 sc:Nat
 BS:List (Nat×aC)
 vs:List Value
 la:Option Addr
 lc:Nat
 BL:List (Nat×aC)
 us:List Value
structure Pu(g:aj)(Q:Nat->Item->Prop)(q:NQ)(F:aw)(s:P3):Prop where
 rules:a7 cO F q.ra q.rm q.rc g.rules
 oQ:GB zC F s.sa (s.k+1) s.sc s.BS s.vs
 list:GB zC F s.la (s.k+1) s.lc s.BL s.us
 len:s.lists.length=s.k+1
 Nb:∀(j:Nat) (l:List Item),s.lists[j]?=some l->∃a n c,s.us[j]?=some (.slice a n c)/\a7 J7 F a n c l
 all:∀(j:Nat) (l:List Item),s.lists[j]?=some l->∀x∈l,Q j x
 small:s.k<=20
 M2:∀(j:Nat) (l:List Item),s.lists[j]?=some l->l.length<=3360
 nd:∀(j:Nat) (l:List Item),s.lists[j]?=some l->l.Nodup
theorem Pu.mono{g:aj}{Q:Nat->Item->Prop}{q:NQ}{F G:aw}{s:P3}(h:Pu g Q q F s)(f:aw.le F G):Pu g Q q G s:=
 ⟨h.rules.mono f,h.oQ.mono f,h.list.mono f,h.len,λj l i=>by obtain⟨a,n,c,o,p⟩:=h.Nb j l i;exact⟨a,n,c,o,p.mono f⟩,h.all,h.small,h.M2,h.nd⟩
def LZ(s:P3):Nat->List Item:=λj=>s.lists.getD j []
def Lb(s:Jy):P3:=⟨s.k,s.cU++[s.last],s.sa,s.sc,s.BS,s.vs++[.map (some s.im)],s.la,s.lc,s.BL,s.us++[.slice s.xa s.xn s.xc]⟩
theorem NF.rest{g:aj}{Q:Nat->Item->Prop}{q:NQ}{F G:aw}{s:Jy}(h:NF g Q q F s)(p:s.last.length<=3360)(r:aw.le F G)(J:∀i b,(i,b)∈s.BX->G i=some b):Pu g Q q G (Lb s):=by have t:=h.Pj;have P:=h.Qo;have f:∀j l,(s.cU++[s.last])[j]?=some l->s.cU[j]?=some l\/(j=s.k/\l=s.last):=by{intro j l o;rcases AT j s.cU.length with h1 | h1;{rw[By h1] at o;exact .inl o};{rw[R0 h1] at o;have:=(gS o).1;simp at this;have e:j-s.cU.length=0:=by{omega};rw[e] at o;exact .inr ⟨by omega,by simpa using o.symm⟩}};refine⟨h.rules.mono r,(h.oQ.mono r).gb,(h.list.mono r).gb,by simp[Lb,t],λj l o=>?_,λj l o x C=>?_,h.small,λj l o=>?_,λj l o=>?_⟩;{rcases f j l o with h1 | ⟨rfl,rfl⟩;{obtain⟨a,n,c,I,R⟩:=h.Nb j l h1;exact⟨a,n,c,by show (s.us++[_])[j]?=_;rw[By (gS I).1];exact I,R.mono r⟩};{exact⟨_,_,_,h.uk,h.last.frozen r J⟩}};{rcases f j l o with h1 | ⟨rfl,rfl⟩;{exact h.P0 j l h1 x C};{exact h.N3 x C}};{rcases f j l o with h1 | ⟨rfl,rfl⟩;{exact h.M2 j l h1};{exact p}};{rcases f j l o with h1 | ⟨rfl,rfl⟩;{exact h.NO j l h1};{exact h.nodup}}
def QP(g:aj)(w:List Nat):Nat->Item->Prop:=λk x=>Cx g.rules k x/\(k<=w.length->∀L,Ol g (w.take k) L->x∈L k)
structure FZ where
 fi:Nat
 ga:Option Addr
 gm:Nat
 gc:Nat
 q:NQ
 s:P3
 wa:Option Addr
 wn:Nat
 wc:Nat
 BW:List (Nat×aC)
 w:List Nat
 E:List Bool
structure Qx(g:aj)(F:aw)(f:FZ):Prop where
 rules:a7 cO F f.ga f.gm f.gc g.rules
 ends:Lp g f.E
 La:Pu (trimmed f.E g) (QP (trimmed f.E g) f.w) f.q F f.s
 k:f.s.k=f.w.length
 oQ:Ol (trimmed f.E g) f.w (LZ f.s)
 word:GB eO F f.wa f.wn f.wc f.BW f.w
 ok:∀t∈f.w,t<g.ae
theorem Qx.mono{g:aj}{F G:aw}{f:FZ}(h:Qx g F f)(i:aw.le F G):Qx g G f:=⟨h.rules.mono i,h.ends,h.La.mono i,h.k,h.oQ,h.word.mono i,h.ok⟩
structure QU(g:aj)(f:FZ)(xs:List Bool):Prop where
 len:xs.length=g.ae+1
 term:∀t,t<g.ae->(xs[t]?=some true↔∃x∈LZ f.s f.s.k,rl (trimmed f.E g).rules x=some ⟨true,t⟩)
 done:xs[g.ae]?=some (jZ g f.w g.start 0 f.w.length)
def DW(g:aj)(y:List Nat)(l:List Sym):Prop:=mM g y l 0 y.length
theorem DW.one{g:aj}{y:List Nat}{s:Sym}(h:nT g y s 0 y.length):DW g y [s]:=.cons h .nil
theorem nT.tree{g:aj}{w:List Nat}{s:Sym}{i j:Nat}(h:nT g w s i j):∃T,aN g w s T i j:=by refine nT.rec (motive_1:=λs i j _=>∃T,aN g w s T i j) (motive_2:=λl i j _=>∃ts,aE g w l ts i j) ?_ ?_ ?_ ?_ h;{intro t i h;exact⟨_,.leaf h⟩};{intro r i j o _ ⟨ts,f⟩;obtain⟨k,hk⟩:=Th o;exact⟨_,.node hk f⟩};{intro i;exact⟨[],.nil⟩};{intro s l i m j _ _ ⟨T,p⟩ ⟨ts,f⟩;exact⟨_,.cons p f⟩}
theorem JL{g:aj}(f:Valid g)(i:∀n,n<g.az->po g n)(k d:Nat):∃v,DW g v ((bF g k).drop d):=
 sU _ λy j=>by have:=uN f k y (TL j);obtain⟨b,n⟩:=y;cases b with|true=>exact .inl rfl|false=>{exact .inr (i n this)}
inductive sC(g:aj)(w:List Nat)(p c:Nat):Sym->Nat->Nat->Prop
 | leaf:sC g w p c ⟨true,c⟩ p 0
 | node {k:Nat} {r:cb} {pre post:List Sym} {s:Sym} {ts:List Tree} {i m n:Nat}:g.rules[k]?=some r->r.right=pre++s::post->aE g w pre ts i m->sC g w p c s m n->sC g w p c ⟨false,r.left⟩ i (n+(bT ts).length+1)
mutual
theorem aN.spine{g:aj}{w:List Nat}{p c:Nat}(f:w[p]?=some c):∀{T:Tree} {X:Sym} {i j:Nat},aN g w X T i j->i<=p->p<j->∃n,sC g w p c X i n
 | .mk _ _ _,_,i,_,.leaf h,J,l=>by{obtain rfl:i=p:=by{omega};rw[f] at h;obtain rfl:=mm h;exact⟨0,.leaf⟩}
 | .mk _ _ ks,_,i,j,.node h l,o,r=>by{obtain⟨pre,s,post,ts,m,n,t,C,I⟩:=aE.spine f l o r;exact⟨_,.node h t C I⟩}
theorem aE.spine{g:aj}{w:List Nat}{p c:Nat}(r:w[p]?=some c):∀{ts:List Tree} {l:List Sym} {i j:Nat},aE g w l ts i j->i<=p->p<j->∃pre s post f m n,l=pre++s::post/\aE g w pre f i m/\sC g w p c s m n
 | [],_,i,_,.nil,o,t=>by omega
 | T::ts,_,i,j,.cons (s:=s) (l:=l) (m:=m) o t,C,I=>by{rcases AT p m with h5 | h5;{obtain⟨n,J⟩:=aN.spine r o C h5;exact⟨[],s,l,[],i,n,rfl,.nil,J⟩};{obtain⟨pre,P,post,f,R,n,U,e2,e3⟩:=aE.spine r t h5 I;exact⟨s::pre,P,post,T::f,R,n,by rw[U];rfl,.cons o e2,e3⟩}}
end
theorem dE.app{g:aj}{l m:List Sym}{t:Nat}(h:dE g l t):dE g (l++m) t:=by obtain⟨pre,s,post,e,f,i⟩:=h;exact⟨pre,s,post++m,by rw[e];simp,f,i⟩
theorem dE.behind{g:aj}:∀{l m:List Sym} {t:Nat},gu g l->dE g m t->dE g (l++m) t
 | [],_,_,_,h=>h
 | s::l,m,t,f,h=>dE.cons (f s me).1 (f s me).2 (dE.behind (λx i=>f x (ma _ i)) h)
theorem sC.begin{g:aj}{w:List Nat}{p c:Nat}(o:w[p]?=some c){X:Sym}{i n:Nat}(h:sC g w p c X i n):i<=p/\∃f,w[i]?=some f/\(X=⟨true,f⟩\/(X.term=false/\Hu g X.n f)):=by induction h with| leaf=>{exact⟨mc _,c,o,.inl rfl⟩}| @node k r pre post s ts i m n t he l _ C=>{obtain⟨h1,f,I,J⟩:=C;have hle:=(aE.le l).1;obtain⟨P,R⟩:=aE.begin l;have hm:=gM t;refine⟨by omega,?_⟩;rcases AT i m with h4 | h4;{obtain⟨c2,j,U⟩:=R h4;exact⟨c2,j,.inr ⟨rfl,.of hm (by rw[he];exact U.app)⟩⟩};{obtain rfl:i=m:=by{omega};exact⟨f,I,.inr ⟨rfl,.of hm (by rw[he];exact dE.behind (P rfl) (.head J))⟩⟩}}
section
variable {g:aj}{it:Nat->Lr->Prop}{la:Nat->Lr->Nat->Prop}{go:Nat->Sym->Option Nat}{act:Nat->Nat->Act}{w:List Nat}
theorem Jj(o:Valid g)(p:∀n,n<g.az->po g n)(x:Lr):(∃t,dE g (cD g x) t)\/gu g (cD g x):=by obtain⟨v,C⟩:=JL o p x.aB (x.dot+1);obtain⟨ts,I⟩:∃ts,aE g v (cD g x) ts 0 v.length:=by{have h:mM g v (cD g x) 0 v.length:=C;refine mM.rec (motive_1:=λs i j _=>∃T,aN g v s T i j) (motive_2:=λl i j _=>∃ts,aE g v l ts i j) ?_ ?_ ?_ ?_ h;{intro t i h;exact⟨_,.leaf h⟩};{intro r i j J _ ⟨ts,f⟩;obtain⟨k,hk⟩:=Th J;exact⟨_,.node hk f⟩};{intro i;exact⟨[],.nil⟩};{intro s l i m j _ _ ⟨T,P⟩ ⟨ts,f⟩;exact⟨_,.cons P f⟩}};obtain⟨R,U⟩:=aE.begin I;rcases Sd v.length with h | h;{exact .inr (R h.symm)};{obtain⟨c,_,f⟩:=U h;exact .inl ⟨c,f⟩}
theorem MH(l:Valid g)(o:∀n,n<g.az->po g n)(ok:tz g it la go){s:Nat}{x:Lr}{k:Nat}{r:cb}(f:it s x)(hu:∃u,la s x u)(i:bj g x=some ⟨false,r.left⟩)(j:g.rules[k]?=some r):∃u,la s ⟨k,0⟩ u:=by obtain⟨u,hu⟩:=hu;rcases Jj l o x with ⟨t,h⟩ | h;{exact⟨t,ok.eT f hu i j (.inl h)⟩};{exact⟨u,ok.eT f hu i j (.inr ⟨h,hu⟩)⟩}
theorem aE.L5(ok:tz g it la go)(on:CT g it la go act)(hw:∀t∈w,t<g.ae){rest:List Sym}:∀{ts:List Tree} {l:List Sym} {i m:Nat},aE g w l ts i m->∀{σ:List Nat} {τ:List Tree} {k d:Nat} {r:cb},g.rules[k]?=some r->it (ix σ) ⟨k,d⟩->(∃u,la (ix σ) ⟨k,d⟩ u)->r.right.drop d=l++rest->dE g rest (lookW g w m)->
  ∃f n,f.length=ts.length/\it (ix (σ++f)) ⟨k,d+l.length⟩/\(∃u,la (ix (σ++f)) ⟨k,d+l.length⟩ u)/\n<=(bT ts).length/\E5 g go act w ((σ,τ),i) n ((σ++f,τ++ts),m)
 | [],_,i,_,.nil,σ,τ,k,d,r,hk,o,p,R,U=>by{refine⟨[],0,rfl,?_,?_,BY _,?_⟩;{rw[R3];exact o};{rw[R3];exact p};{rw[R3,R3];exact .refl}}
 | T::ts,s::l,i,j,.cons (m:=m) h1 h2,σ,τ,k,d,r,hk,o,⟨u,p⟩,R,U=>by{have ab:r.right[d]?=some s:=by{rw[<-List.head?_drop,R];rfl};have I:r.right.drop (d+1)=l++rest:=by{rw[<-List.tail_drop,R];rfl};have J:bj g ⟨k,d⟩=some s:=by{rw[cq];show (bF g k)[d]?=_;rw[dV hk];exact ab};have C:cD g ⟨k,d⟩=l++rest:=by{unfold cD;show (bF g k).drop (d+1)=_;rw[dV hk];exact I};obtain⟨b1,b2⟩:=aE.begin h2;have hle:=(aE.le h2).1;have ac:pQ g la (ix σ) ⟨k,d⟩ (lookW g w m):=by{unfold pQ;rw[C];left;by_cases hm:m<j;{obtain⟨c,hc,h5⟩:=b2 hm;rw[sx hc];exact h5.app};{obtain rfl:m=j:=by{omega};exact dE.behind (b1 rfl) U}};obtain⟨P,n1,e1,e2,e3⟩:=aN.run ok on hw h1 o ⟨_,p⟩ J ac;obtain⟨s2,f1,f2,f3⟩:=ok.step o J;rw[e1] at f1;obtain rfl:=mm f1;obtain⟨f,n2,g1,g2,g3,g4,g5⟩:=aE.L5 ok on hw h2 (σ:=σ++[P]) (τ:=τ++[T]) (k:=k) (d:=d+1) (r:=r) hk (by rw[pR];exact f2) ⟨u,by rw[pR];exact f3 _ p⟩ I U;have e:∀x:List Nat,σ++[P]++x=σ++(P::x):=λx=>by{simp};have e':∀x:List Tree,τ++[T]++x=τ++(T::x):=λx=>by{simp};rw[e] at g2 g3 g5;rw[e'] at g5;have e6:d+1+l.length=d+(s::l).length:=by{rw[If];omega};rw[e6] at g2 g3;refine⟨P::f,n1+n2,by rw[If,g1];rfl,g2,g3,?_,e3.trans g5⟩;show _<=(T.pre++bT ts).length;rw[q0];omega}
theorem sC.run(hg:Valid g)(hP:∀n,n<g.az->po g n)(ok:tz g it la go)(on:CT g it la go act)(hw:∀t∈w,t<g.ae){p c:Nat}(hc:w[p]?=some c){X:Sym}{i n:Nat}(h:sC g w p c X i n) :
  ∀{σ:List Nat} {τ:List Tree} {x:Lr},it (ix σ) x->(∃u,la (ix σ) x u)->bj g x=some X->∃f I n' j,n'<=n/\E5 g go act w ((σ,τ),i) n' ((f,I),p)/\act (ix f) c=.shift j:=by induction h with| leaf=>{intro σ τ x l hu o;obtain⟨j,h1,h2,h3⟩:=ok.step l o;exact⟨σ,τ,0,j,mc _,.refl,on.all (.shift (hw c (gM hc)) h1)⟩}| @node k r pre post s ts i m n C he ht hs ih=>{intro σ τ x l hu o;have J:=ok.xR l o C;have P:=MH hg hP ok l hu o C;obtain⟨_,c',R,hb⟩:=hs.begin hc;obtain⟨f,n1,e1,e2,e3,e4,e5⟩:=aE.L5 ok on hw ht (σ:=σ) (τ:=τ) (k:=k) (d:=0) (r:=r) (rest:=s::post) C J P (by rw[TE];exact he) (by rw[sx R];exact .head hb);rw[yo] at e2 e3;have U:bj g ⟨k,pre.length⟩=some s:=by{rw[cq];show (bF g k)[pre.length]?=_;rw[dV C,he];simp};obtain⟨aa,ab,n2,j,g1,g2,g3⟩:=ih (τ:=τ++ts) e2 e3 U;exact⟨aa,ab,n1+n2,j,by omega,e5.trans g2,g3⟩}
end
section
variable {α:Type}{R:Ty α}{F G H:aw}{a:Option Addr}{n c:Nat}{B:List (Nat×aC)}{xs:List α}
end
structure Rm(g:aj)(T:JQ)(I:List (List Lr))(rows:List (List Int))(la:Nat->Lr->Nat->Prop):Prop where
 auto:lD g I rows
 lr:tz g (rZ I) la (pJ g rows)
 only:CT g (rZ I) la (pJ g rows) (M7 T)
 Qh:T.act.length=I.length
 FA:T.act.length<=400
 QK:∀r∈T.act,r.length=g.ae+1
 go:T.go=rows.map (·.drop g.ae)
theorem OC{g:aj}{S:List (List aM)}(h:∀st∈S,∀x∈st,x.set<2 ^ (g.ae+1)){s:Nat}{x:Lr}{t:Nat}(i:qb S s x t):t<=g.ae:=by obtain⟨st,m,j,l,f⟩:=i;have o:=h st (gM j) _ l;rcases AT g.ae t with h5 | h5;{have p:m<2 ^ t:=Sk o (R4 (by decide) h5);rw[Tl p] at f;cases f};{exact h5}
theorem Od{g:aj}(j:Valid g)(l:g.ae<=5){method:Nat}{T:JQ}(h:lI g method=some T)(r:T.wk=[]):∃I rows la,Rm g T I rows la:=by have i:=Jp j l h;unfold lI at h;cases f:dx g method with|none=>{rw[f] at h;cases h}|some a=>{obtain⟨S,rows⟩:=a;rw[f] at h;obtain rfl:=mm h;obtain⟨p,C⟩:=mQ j f;have o:=kH j f;refine⟨S.map aD,rows,qb S,p,C,MO j p (λs x t J=>OC (λst f x P=>((o st f).2 x P).2) J) r,?_,i.2.1,i.2.2.2.1,rfl⟩;show ((dZ g S rows).map _).length=_;unfold dZ;simp}
section
variable {g:aj}{T:JQ}{I:List (List Lr)}{rows:List (List Int)}{la:Nat->Lr->Nat->Prop}
end
structure PP where
 method:Nat
 a1:Option Addr
 n1:Nat
 c1:Nat
 a2:Option Addr
 n2:Nat
 c2:Nat
 a3:Option Addr
 n3:Nat
 c3:Nat
 ga:Option Addr
 gm:Nat
 gc:Nat
 sa:Option Addr
 sn:Nat
 sc:Nat
 ta:Option Addr
 tn:Nat
 tc:Nat
 read:Nat
structure OA(g:aj)(T:JQ)(F:aw)(p:PP)(σ:List Nat)(τ:List Tree):Prop where
 act:a7 (bR jN) F p.a1 p.n1 p.c1 T.act
 go:a7 (bR fF) F p.a2 p.n2 p.c2 T.go
 rules:a7 cO F p.ga p.gm p.gc g.rules
 OG:a7 eO F p.sa p.sn p.sc σ
 trees:a7 gN F p.ta p.tn p.tc τ
 first:τ=[]->p.ta=none
theorem OA.mono{g:aj}{T:JQ}{F G:aw}{p:PP}{σ:List Nat}{τ:List Tree}(h:OA g T F p σ τ)(f:aw.le F G):OA g T G p σ τ:=
 ⟨h.act.mono f,h.go.mono f,h.rules.mono f,h.OG.mono f,h.trees.mono f,h.first⟩
structure RV where
 j:Nat
 xa:Option Addr
 xn:Nat
 xc:Nat
 B1:List (Nat×aC)
 ya:Option Addr
 yn:Nat
 yc:Nat
 B2:List (Nat×aC)
def PP.next(p:PP)(sa:Option Addr)(sn sc:Nat)(ta:Option Addr)(tn tc:Nat):PP:={ p with sa:=sa,sn:=sn,sc:=sc,ta:=ta,tn:=tn,tc:=tc,read:=p.read+1 }
structure RW where
 p:PP
 σ:List Nat
 τ:List Tree
theorem Gu(F:aw)(g:aj)(hg:Valid g)(j:g.ae<=5)(method:Nat)(hm:method=1\/method=2\/method=3){a:Option Addr}{m c:Nat}(hr:a7 cO F a m c g.rules) :
  Abs.Spec CC 36 [.agg ⟨ak g a m c⟩,.int .i64 method] F [] λF' v o=>o=[]/\∃k l r t a2 n2 c2 C i I b,v=.tuple ⟨[.agg ⟨[.int .i64 (k:Nat),.slice l r t,.slice a2 n2 c2,.slice C i I]⟩,.bool b]⟩/\
   (b=true->∃T,lI g method=some T/\T.wk=[]/\Lu F' method T (.agg ⟨[.int .i64 (k:Nat),.slice l r t,.slice a2 n2 c2,.slice C i I]⟩)):=by have af:method<=3:=by{omega};(unfold ak;refine Abs.Spec.fn (n:=23) Tryz.func36 rfl rfl λown=>?_;refine AW.seq (AW.fj ?_);refine WT.bZ Z Z Z Z Z Z (λi2 ag=>?_);refine WT.aG hT Z Z Z Z Z Z (λi4 al=>?_);refine aq ?_;have f:=Mu F g hg j method hm hr;unfold ak at f;refine WT.bO Tryz.func9 Z Z Z Z Z Z f (λF1 v an J=>?_);rcases J with ⟨hn,rfl⟩ | ⟨T,x,P,rfl,hx⟩);{refine aq ?_;refine WT.aG hT Z Z Z Z Z Z (λi6 R=>?_);refine aq ?_;refine AW.draw (ps:=[(5,9),(6,9),(7,9)]) Z Z (aq ?_);refine⟨k9,?_⟩;exact AW.ret ⟨_,[],⟨_,_,⟨_,rfl,λG h0 U=>aR (U.has (p:=1) rfl me) (bh hT rfl)⟩,⟨_,_,rfl,rfl,rfl⟩,rfl⟩,bw,rfl,0,_,_,_,_,_,_,_,_,_,_,rfl,λh=>(by cases h)⟩};{obtain⟨l,r,t,a2,n2,c2,C,i,I,rfl,h1,h2,h3⟩:=id hx;have ar:=h3.len;refine aq ?_;refine WT.aG hT Z Z Z Z Z Z (λi6 R=>?_);refine aq ?_;refine AW.draw (ps:=[(5,9),(6,9),(7,9)]) Z Z (aq ?_);refine⟨k9,?_⟩;refine AW.ret ⟨_,[],⟨_,_,⟨_,rfl,λG h0 U=>aR (U.has (p:=1) Z me) (bh hT rfl)⟩,⟨_,_,rfl,rfl,rfl⟩,rfl⟩,bw,rfl,method,_,_,_,_,_,_,_,_,_,_,rfl,λh=>⟨T,P,?_,hx⟩⟩;have h:i=0:=by{simp at h;omega};exact D1 zo}
structure RP where
 a:Option Addr
 m:Nat
 c:Nat
 B:List (Nat×aC)
 a2:Option Addr
 m2:Nat
 c2:Nat
 B2:List (Nat×aC)
 us:List (List Nat)
 es:List Nat
structure oI where
 lists:Nat->List Tree
 seen:List aO
 waits:Nat×Nat->List aO
 q:List (aO×Tree)
def eQ(f:Fo)(c:aO):Option gZ:=(f.cg c.node)[c.pack]?
def cP(f:Fo)(L:Nat->List Tree)(c:aO):Option Tree:=match eQ f c with
 | some p=>match pick L p.kids c.bV with
  | some ts=>some (.mk p.aB 0 ts)
  | none=>none
 | none=>none
theorem dw{f:Fo}{L:Nat->List Tree}{c:aO}{T:Tree}(h:cP f L c=some T):∃p ts,eQ f c=some p/\pick L p.kids c.bV=some ts/\T=.mk p.aB 0 ts:=by unfold cP at h;split at h;{rename_i p i;split at h;{rename_i ts g;cases h;exact⟨p,ts,i,g,rfl⟩};{cases h}};{cases h}
theorem oq{f:Fo}{L:Nat->List Tree}{c:aO}{p:gZ}{ts:List Tree}(g:eQ f c=some p)(i:pick L p.kids c.bV=some ts):cP f L c=some (.mk p.aB 0 ts):=by unfold cP;simp only[g,i]
theorem js{f:Fo}{L g:Nat->List Tree}(h:I5 L g){c:aO}{T:Tree}(i:cP f L c=some T):cP f g c=some T:=by obtain⟨p,ts,j,l,rfl⟩:=dw i;exact oq j (Jh h l)
structure lJ(f:Fo)(most:Nat)(c:aO):Prop where
 node:c.node<f.n
 nl:f.leaf c.node=none
 pack:∃p,eQ f c=some p
 Ek:∀r∈c.bV,r<=most
 zero:∀p,eQ f c=some p->∀(i r:Nat),p.kids.length<=i->c.bV[i]?=some r->r=0
structure Inv(f:Fo)(most:Nat)(s:oI)(done pend ex:List aO):Prop where
 ok:∀c∈s.seen,lJ f most c
 snd:s.seen.Nodup
 nX:∀c∈done,c∈s.seen
 uD:∀c∈pend,c∈s.seen
 FQ:done.Nodup
 Mn:pend.Nodup
 H6:(s.q.map (·.1)).Nodup
 FB:∀w,(s.waits w).Nodup
 dq:∀c∈done,c∉s.q.map (·.1)/\c∉pend/\∀w,c∉s.waits w
 pq:∀c∈pend,c∉s.q.map (·.1)/\∀w,c∉s.waits w
 qw:∀c∈s.q.map (·.1),∀w,c∉s.waits w
 xe:∀x∈s.q,x.1∈s.seen/\cP f s.lists x.1=some x.2
 p7:∀w,∀c∈s.waits w,c∈s.seen/\∃p,eQ f c=some p/\mq s.lists p.kids c.bV=some w
 cover:∀c∈s.seen,c∈done\/c∈pend\/c∈s.q.map (·.1)\/∃w,c∈s.waits w
 next:∀c∈done,c∈ex\/(s.lists c.node).length=most\/((∃T∈s.lists c.node,cP f s.lists c=some T)/\∀p,eQ f c=some p->∀i,i<p.kids.length->c.inc i∈s.seen)
 k5:∀v t,v<f.n->f.leaf v=some t->s.lists v=[.mk (-1) t []]
 from_:∀v,f.leaf v=none->∀T∈s.lists v,∃c∈done,c.node=v/\cP f s.lists c=some T
 len:∀v,(s.lists v).length<=most
 sorted:∀v,(s.lists v).Pairwise qJ
 ord:∀v,f.leaf v=none->∀x∈s.lists v,∀y∈s.q,Df x y.2
 valid:∀v,∀T∈s.lists v,NT f v T
 full:∀v,f.leaf v=none->(s.lists v).length=most->∀T,NT f v T->T∉s.lists v->∀x∈s.lists v,qJ x T
 small:∀v,∀T∈s.lists v,T.pre.length<=5000
def nE(f:Fo)(s:oI):Prop:=∀v,v<f.n->f.leaf v=none->∀p,p<(f.cg v).length->(⟨v,p,0,0,0,0⟩:aO)∈s.seen
theorem rH{f:Fo}{L:Nat->List Tree}(j:∀v,∀T∈L v,NT f v T){ks rs:List Nat}{ts:List Tree}(h:pick L ks rs=some ts):rI f ks ts:=by obtain⟨l,o⟩:=cI h;exact rI.L3 l λi k t hk g=>by{obtain⟨r,I,J,p,C⟩:=o i k hk;rw[C] at g;cases g;exact j _ _ (gM p)}
theorem FW{f:Fo}{most:Nat}{L:Nat->List Tree}(i:∀v,∀T∈L v,NT f v T){c:aO}(g:lJ f most c){T:Tree}(h:cP f L c=some T):NT f c.node T:=by obtain⟨p,ts,j,l,rfl⟩:=dw h;exact .node g.node g.nl (gM j) (rH i l)
theorem uO{l:List Tree}(h:l.Pairwise qJ):l.Nodup:=by rw[Sw];refine h.imp ?_;rintro a b f rfl;exact wT _ f
theorem Fb{α:Type}{l:List α}(h:l.Nodup){i j:Nat}{x:α}(hi:l[i]?=some x)(f:l[j]?=some x):i=j:=by obtain⟨p,g⟩:=gS hi;obtain⟨r,o⟩:=gS f;exact(List.getElem_inj h).1 (g.trans o.symm)
theorem Ke{f:Fo}(hf:f.Good){most:Nat}{L:Nat->List Tree}(I:∀v,∀T∈L v,NT f v T)(hs:∀v,(L v).Pairwise qJ){c d:aO}(l:lJ f most c)(hd:lJ f most d)(o:c.node=d.node){T:Tree}(h1:cP f L c=some T)(h2:cP f L d=some T):c=d:=by obtain⟨p,ts,g,J,rfl⟩:=dw h1;obtain⟨q,us,j,P,R⟩:=dw h2;injection R with R _ g4;subst g4;have hr:p.aB=q.aB:=by{omega};(unfold eQ at g j;rw[<-o] at j;have C:=hf.uniq c.node l.node l.nl c.pack d.pack p q g j hr ts (rH I J) (rH I P);rw[<-C,g] at j;cases j;refine aO.Qy o C (UR (by rfl) λi hi hj=>?_);have r1:c.bV[i]?=some c.bV[i]:=gE hi;have r2:d.bV[i]?=some d.bV[i]:=gE hj;rcases AT i p.kids.length with hk | hk);{obtain⟨k,hk⟩:∃k,p.kids[i]?=some k:=⟨_,gE hk⟩;obtain⟨_,f1⟩:=cI J;obtain⟨_,f2⟩:=cI P;obtain⟨r,t,U,a2,a3⟩:=f1 i k hk;obtain⟨r',t',b1,b2,b3⟩:=f2 i k hk;rw[a3] at b3;cases b3;rw[r1] at U;cases U;rw[r2] at b1;cases b1;exact Fb (uO (hs k)) a2 b2};{have z1:=l.zero p (by unfold eQ;exact g) i _ hk r1;have z2:=hd.zero p (by unfold eQ;rw[<-o,<-C];exact g) i _ hk r2;omega}
def wi(f:Fo)(s:oI)(c:aO):oI:=match eQ f c with
 | none=>s
 | some p=>match mq s.lists p.kids c.bV with
  | some w=>{ s with waits:=λx=>if x=w then s.waits w++[c] else s.waits x }
  | none=>match pick s.lists p.kids c.bV with
   | some ts=>{ s with q:=s.q++[(c,.mk p.aB 0 ts)] }
   | none=>s
theorem A2(f:Fo)(s:oI)(c:aO):(wi f s c).lists=s.lists/\(wi f s c).seen=s.seen:=by unfold wi;split;{exact⟨rfl,rfl⟩};{split;{exact⟨rfl,rfl⟩};{split<;>exact⟨rfl,rfl⟩}}
theorem Inv.P5{f:Fo}(hf:f.Good){most:Nat}{s:oI}{done j ex:List aO}{c:aO}(h:Inv f most s done (c::j) ex)(hT:∀T,cP f s.lists c=some T->∀v,f.leaf v=none->∀x∈s.lists v,Df x T):Inv f most (wi f s c) done j ex:=by
 have o:=h.uD c me;have r:=h.ok c o;obtain⟨p,P⟩:=r.pack;have U:p.kids.length<=4:=(hf.kids _ r.node p (gM P)).1;obtain⟨t,l⟩:=Ss.1 h.Mn;have i:=h.pq c me;have C:∀d∈done,d≠c:=λd hd e=>(h.dq d hd).2.1 (by rw[e];exact R2 ..);unfold wi;simp only[P];cases hm:mq s.lists p.kids c.bV with
 | some w=>
  simp only;have g:∀x d,d∈(if x=w then s.waits w++[c] else s.waits x)->d∈s.waits x\/(x=w/\d=c):=by
   intro x d hd;split at hd
   ·rename_i e;subst e;rcases AI.1 hd with hd | hd
    ·exact .inl hd
    ·exact .inr ⟨rfl,n0.1 hd⟩
   ·exact .inl hd
  exact
  {ok:=h.ok
   snd:=h.snd
   nX:=h.nX
   uD:=λd hd=>h.uD d (ma _ hd)
   FQ:=h.FQ
   Mn:=l
   H6:=h.H6
   FB:=λx=>by
    show (if x=w then s.waits w++[c] else s.waits x).Nodup;split
    ·rw[S1];refine⟨h.FB w,by simp,λa ha b R e=>?_⟩;rw[n0.1 R] at e;subst e;exact i.2 w ha
    ·exact h.FB x
   dq:=λd hd=>⟨(h.dq d hd).1,λhm=>(h.dq d hd).2.1 (ma _ hm),λx hx=>by
    rcases g x d hx with hx | ⟨_,rfl⟩
    ·exact(h.dq d hd).2.2 x hx
    ·exact C d hd rfl⟩
   pq:=λd hd=>⟨(h.pq d (ma _ hd)).1,λx hx=>by
    rcases g x d hx with hx | ⟨_,rfl⟩
    ·exact(h.pq d (ma _ hd)).2 x hx
    ·exact t hd⟩
   qw:=λd hd x hx=>by
    rcases g x d hx with hx | ⟨_,rfl⟩
    ·exact h.qw d hd x hx
    ·exact i.1 hd
   xe:=h.xe
   p7:=λx d hd=>by
    rcases g x d hd with hx | ⟨rfl,rfl⟩
    ·exact h.p7 x d hx
    ·exact⟨o,p,P,hm⟩
   cover:=λd hd=>by
    rcases h.cover d hd with hx | hx | hx | ⟨x,hx⟩
    ·exact .inl hx
    ·rcases IN.1 hx with rfl | hx
     ·exact .inr (.inr (.inr ⟨w,by show d∈(if w=w then s.waits w++[d] else s.waits w);simp⟩))
     ·exact .inr (.inl hx)
    ·exact .inr (.inr (.inl hx))
    ·refine .inr (.inr (.inr ⟨x,?_⟩));show d∈(if x=w then s.waits w++[c] else s.waits x);split
     ·rename_i e;subst e;exact IT _ hx
     ·exact hx
   next:=h.next
   k5:=h.k5
   from_:=h.from_
   len:=h.len
   sorted:=h.sorted
   ord:=h.ord
   valid:=h.valid
   full:=h.full
   small:=h.small }
 | none=>
  simp only;obtain⟨ts,I⟩:=Ao (by show p.kids.length<=4;exact U) hm;have J:=oq P I;simp only[I];exact
  {ok:=h.ok
   snd:=h.snd
   nX:=h.nX
   uD:=λd hd=>h.uD d (ma _ hd)
   FQ:=h.FQ
   Mn:=l
   H6:=by
    rw[R1,S1];refine⟨h.H6,by simp,λa ha b R e=>?_⟩;simp at R;subst R e;exact i.1 ha
   FB:=h.FB
   dq:=λd hd=>⟨λhx=>by
    rw[R1] at hx;rcases AI.1 hx with hx | hx
    ·exact(h.dq d hd).1 hx
    ·exact C d hd (by simpa using hx),λhm=>(h.dq d hd).2.1 (ma _ hm),(h.dq d hd).2.2⟩
   pq:=λd hd=>⟨λhx=>by
    rw[R1] at hx;rcases AI.1 hx with hx | hx
    ·exact(h.pq d (ma _ hd)).1 hx
    ·have:d=c:=by simpa using hx
     subst this;exact t hd,(h.pq d (ma _ hd)).2⟩
   qw:=λd hx x hw=>by
    rw[R1] at hx;rcases AI.1 hx with hx | hx
    ·exact h.qw d hx x hw
    ·have:d=c:=by simpa using hx
     subst this;exact i.2 x hw
   xe:=λx hx=>by
    rcases AI.1 hx with hx | hx
    ·exact h.xe x hx
    ·rw[n0.1 hx];exact⟨o,J⟩
   p7:=h.p7
   cover:=λd hd=>by
    rcases h.cover d hd with hx | hx | hx | hx
    ·exact .inl hx
    ·rcases IN.1 hx with rfl | hx
     ·exact .inr (.inr (.inl (by rw[R1];simp)))
     ·exact .inr (.inl hx)
    ·exact .inr (.inr (.inl (by rw[R1];exact IT _ hx)))
    ·exact .inr (.inr (.inr hx))
   next:=h.next
   k5:=h.k5
   from_:=h.from_
   len:=h.len
   sorted:=h.sorted
   ord:=λv hv x hx y hy=>by
    rcases AI.1 hy with hy | hy
    ·exact h.ord v hv x hx y hy
    ·rw[n0.1 hy];exact hT _ J v hv x hx
   valid:=h.valid
   full:=h.full
   small:=h.small }
def iV(f:Fo)(s:oI)(c:aO):oI:=if c∈s.seen then s else wi f { s with seen:=s.seen++[c] } c
theorem vz(f:Fo)(s:oI)(c:aO):(iV f s c).lists=s.lists/\(∀d∈s.seen,d∈(iV f s c).seen)/\c∈(iV f s c).seen/\(iV f s c).seen.length<=s.seen.length+1:=by unfold iV;split;{rename_i h;exact⟨rfl,λd g=>g,h,by omega⟩};{obtain⟨i,j⟩:=A2 f { s with seen:=s.seen++[c] } c;rw[j];exact⟨i,λd g=>IT _ g,by simp,by simp⟩}
theorem Inv.PV{f:Fo}{most:Nat}{s:oI}{done ex:List aO}{c:aO}(h:Inv f most s done [] ex)(o:lJ f most c)(g:c∉s.seen):Inv f most { s with seen:=s.seen++[c] } done [c] ex:=by
 have j:∀{d:aO},d∈s.seen->d∈s.seen++[c]:=λh=>IT _ h;have l:c∉s.q.map (·.1):=λhx=>by
  obtain⟨y,r,rfl⟩:=tx.1 hx;exact g (h.xe y r).1
 exact
 {ok:=λd hd=>by
   rcases AI.1 hd with hd | hd
   ·exact h.ok d hd
   ·rw[n0.1 hd];exact o
  snd:=by
   show (s.seen++[c]).Nodup;rw[S1];refine⟨h.snd,by simp,λa t b C e=>?_⟩;rw[n0.1 C] at e;subst e;exact g t
  nX:=λd hd=>j (h.nX d hd)
  uD:=λd hd=>by rw[n0.1 hd];simp
  FQ:=h.FQ
  Mn:=by simp
  H6:=h.H6
  FB:=h.FB
  dq:=λd hd=>⟨(h.dq d hd).1,λhx=>by rw[n0.1 hx] at hd;exact g (h.nX c hd),(h.dq d hd).2.2⟩
  pq:=λd hd=>by
   rw[n0.1 hd];exact⟨l,λw hw=>g (h.p7 w c hw).1⟩
  qw:=h.qw
  xe:=λx hx=>⟨j (h.xe x hx).1,(h.xe x hx).2⟩
  p7:=λw d hd=>⟨j (h.p7 w d hd).1,(h.p7 w d hd).2⟩
  cover:=λd hd=>by
   rcases AI.1 hd with hd | hd
   ·rcases h.cover d hd with hx | hx | hx
    ·exact .inl hx
    ·cases hx
    ·exact .inr (.inr hx)
   ·exact .inr (.inl hd)
  next:=λd hd=>(h.next d hd).imp id λhx=>hx.imp id λhx=>⟨hx.1,λp I i hi=>j (hx.2 p I i hi)⟩
  k5:=h.k5
  from_:=h.from_
  len:=h.len
  sorted:=h.sorted
  ord:=h.ord
  valid:=h.valid
  full:=h.full
  small:=h.small }
theorem Inv.KN{f:Fo}(g:f.Good){most:Nat}{s:oI}{done ex:List aO}{c:aO}(h:Inv f most s done [] ex)(i:lJ f most c)(hT:∀T,cP f s.lists c=some T->∀v,f.leaf v=none->∀x∈s.lists v,Df x T):Inv f most (iV f s c) done [] ex:=by unfold iV;split;{exact h};{rename_i j;exact Inv.P5 g (s:={ s with seen:=s.seen++[c] }) (h.PV i j) hT}
theorem H2{α:Type}[DecidableEq α]:∀(A B:List α),A.Nodup->(∀x∈A,x∈B)->B.length<=A.length->∀x∈B,x∈A
 | [],B,_,_,h,x,f=>by{obtain rfl:B=[]:=D1 (by simpa using h);cases f}
 | a::A,B,o,hs,p,x,f=>by{obtain⟨r,t⟩:=Ss.1 o;have i:=hs a me;have hle:=List.length_erase_of_mem i;have j:=UM i;by_cases e:x=a;{subst e;exact R2 ..};{have g:x∈B.erase a:=(List.mem_erase_of_ne e).2 f;refine ma _ (H2 A (B.erase a) t (λy l=>?_) (by simp at p;omega) x g);exact(List.mem_erase_of_ne (by rintro rfl;exact r l)).2 (hs y (ma _ l))}}
theorem pK{α:Type}[DecidableEq α]:∀(A B:List α),A.Nodup->(∀x∈A,x∈B)->A.length<=B.length
 | [],_,_,_=>BY _
 | a::A,B,j,hs=>by{obtain⟨l,o⟩:=Ss.1 j;have f:=hs a me;have hle:=List.length_erase_of_mem f;have g:=UM f;have:=pK A (B.erase a) o λy i=>(List.mem_erase_of_ne (by rintro rfl;exact l i)).2 (hs y (ma _ i));simp only[If];omega}
open Classical in
noncomputable def Mk(L:Nat->List Tree):List Nat->List Tree->Nat
 | k::ks,t::ts=>(if t∈L k then 0 else 1)+Mk L ks ts
 | _,_=>0
theorem GV(L:Nat->List Tree):∀(ks:List Nat) (ts:List Tree),Mk L ks ts<=ks.length
 | [],_=>mc _
 | _::_,[]=>BY _
 | k::ks,t::ts=>by{have:=GV L ks ts;unfold Mk;simp only[If];split<;>omega}
theorem Hs{L:Nat->List Tree}:∀{ks:List Nat} {ts:List Tree} {i k:Nat} {t x:Tree},ks[i]?=some k->ts[i]?=some t->t∉L k->x∈L k->Mk L ks (ts.set i x)<Mk L ks ts
 | [],_,_,_,_,_,h,_,_,_=>by simp at h
 | _::_,[],_,_,_,_,_,h,_,_=>by simp at h
 | k0::ks,t0::ts,0,k,t,x,f,g,j,l=>by{obtain rfl:k0=k:=by{simpa using f};obtain rfl:t0=t:=by{simpa using g};show Mk L (k0::ks) (x::ts)<_;unfold Mk;rw[nw l,mb j];omega}
 | k0::ks,t0::ts,i+1,k,t,x,f,g,j,l=>by{have:=Hs (L:=L) (ks:=ks) (ts:=ts) (i:=i) (by simpa using f) (by simpa using g) j l;show Mk L (k0::ks) (t0::ts.set i x)<_;unfold Mk;omega}
def yG(s:oI)(most:Nat)(v:Nat)(T:Tree):Prop:=T∈s.lists v\/(∃y∈s.q,Df y.2 T)\/((s.lists v).length=most/\∀x∈s.lists v,qJ x T)
theorem En:∀{l m:List Tree},l.length=m.length->(∀(i:Nat) (a b:Tree),l[i]?=some a->m[i]?=some b->Df a b)->K6 l m
 | [],[],_,_=>trivial
 | [],_::_,h,_=>by simp at h
 | _::_,[],h,_=>by simp at h
 | a::l,b::m,h,f=>⟨f 0 a b rfl rfl,En (by simpa using h) λi a b g j=>f (i+1) a b (by simpa using g) (by simpa using j)⟩
theorem Iq{l:List Tree}(h:l.Pairwise qJ){i j:Nat}{a b:Tree}(o:i<=j)(g:l[i]?=some a)(f:l[j]?=some b):Df a b:=by rcases AT i j with h1 | h1;{obtain⟨p,rfl⟩:=gS g;obtain⟨r,rfl⟩:=gS f;exact .inl (Sz.1 h i j p r h1)};{obtain rfl:i=j:=by{omega};rw[g] at f;cases f;exact gi _}
theorem EK{L:Nat->List Tree}:∀{ks:List Nat} {ts:List Tree},ts.length=ks.length->(∀(i k:Nat) (t:Tree),ks[i]?=some k->ts[i]?=some t->t∈L k)->
  ∃rs:List Nat,rs.length=ks.length/\∀(i k:Nat) (t:Tree),ks[i]?=some k->ts[i]?=some t->∃r,rs[i]?=some r/\(L k)[r]?=some t
 | [],_,_,_=>⟨[],rfl,λi k t h=>by simp at h⟩
 | _::_,[],h,_=>by simp at h
 | k::ks,t::ts,h,j=>by{obtain⟨rs,o,p⟩:=EK (L:=L) (ks:=ks) (ts:=ts) (by simpa using h) λi k t f g=>j (i+1) k t (by simpa using f) (by simpa using g);obtain⟨r,C⟩:=TZ.1 (j 0 k t rfl rfl);refine⟨r::rs,by simp[o],λi k' l f g=>?_⟩;cases i with|zero=>{obtain rfl:k=k':=by{simpa using f};obtain rfl:t=l:=by{simpa using g};exact⟨r,rfl,C⟩}|succ i=>{obtain⟨I,J,P⟩:=p i k' l (by simpa using f) (by simpa using g);exact⟨I,by simpa using J,P⟩}}
theorem K2:∀(rs:List Nat),rs.length<=4->∃c:Nat×Nat×Nat×Nat,(∀(i r:Nat),rs[i]?=some r->[c.1,c.2.1,c.2.2.1,c.2.2.2][i]?=some r)/\∀(i r:Nat),rs.length<=i->[c.1,c.2.1,c.2.2.1,c.2.2.2][i]?=some r->r=0
 | [],_=>⟨(0,0,0,0),λi r h=>by simp at h,λi r _ h=>by
   match i with
   | 0 | 1 | 2 | 3=>simpa using h.symm
   | _+4=>simp at h⟩
 | [a],_=>⟨(a,0,0,0),λi r h=>by
   match i with
   | 0=>simpa using h
   | _+1=>simp at h,λi r f h=>by
   match i with
   | 0=>simp at f
   | 1 | 2 | 3=>simpa using h.symm
   | _+4=>simp at h⟩
 | [a,b],_=>⟨(a,b,0,0),λi r h=>by
   match i with
   | 0 | 1=>simpa using h
   | _+2=>simp at h,λi r f h=>by
   match i with
   | 0 | 1=>simp at f
   | 2 | 3=>simpa using h.symm
   | _+4=>simp at h⟩
 | [a,b,c],_=>⟨(a,b,c,0),λi r h=>by
   match i with
   | 0 | 1 | 2=>simpa using h
   | _+3=>simp at h,λi r f h=>by
   match i with
   | 0 | 1 | 2=>simp at f
   | 3=>simpa using h.symm
   | _+4=>simp at h⟩
 | [a,b,c,d],_=>⟨(a,b,c,d),λi r h=>h,λi r f h=>by
   match i with
   | 0 | 1 | 2 | 3=>simp at f
   | _+4=>simp at h⟩
 | _::_::_::_::_::_,h=>by simp at h
theorem Inv.P1{f:Fo}(hf:f.Good){most:Nat}{s:oI}{done:List aO}(h:Inv f most s done [] []){z:aO}{p:gZ}{ts:List Tree}(hz:eQ f z=some p)(j:pick s.lists p.kids z.bV=some ts)
  (ar:∀(i r:Nat),p.kids.length<=i->z.bV[i]?=some r->r=0) (hv:NT f z.node (.mk p.aB 0 ts)) (a8:p.kids.length<=4) :
  ∀(D:Nat) (c:aO),c∈s.seen->c.node=z.node->c.pack=z.pack->c.r0<=z.r0->c.r1<=z.r1->c.r2<=z.r2->c.r3<=z.r3->z.r0+z.r1+z.r2+z.r3-(c.r0+c.r1+c.r2+c.r3)<=D->yG s most z.node (.mk p.aB 0 ts):=by intro D;induction D with|zero=>{intro c hc g l J P R U hD;obtain rfl:c=z:=by{cases c;cases z;simp only at g l J P R U hD;simp only[aO.mk.injEq];exact⟨g,l,by omega,by omega,by omega,by omega⟩};have ag:=oq hz j;rcases h.cover c hc with hx | hx | hx | ⟨w,hx⟩;{rcases h.next c hx with hy | hy | ⟨⟨T,hy,al⟩,_⟩;{cases hy};{by_cases hm:Tree.mk p.aB 0 ts∈s.lists c.node;{exact .inl hm};{exact .inr (.inr ⟨hy,h.full _ (h.ok c hc).nl hy _ hv hm⟩)}};{rw[ag] at al;cases al;exact .inl hy}};{cases hx};{obtain⟨y,hy,rfl⟩:=tx.1 hx;have:=(h.xe y hy).2;rw[ag] at this;exact .inr (.inl ⟨y,hy,by rw[<-mm this];exact gi _⟩)};{obtain⟨_,p',o,hm⟩:=h.p7 w c hx;rw[hz] at o;cases o;obtain⟨i,e1,e2,e3⟩:=j9 (k:=w.1) (r:=w.2) hm;obtain⟨r,t,C,I,_⟩:=(cI j).2 i _ e1;rw[e2] at C;cases C;rw[e3] at I;cases I}}|succ D ih=>{intro c hc g l J P R U hD;have ab:eQ f c=some p:=by{unfold eQ at hz |-;rw[g,l];exact hz};by_cases e:c=z;{exact ih c hc g l J P R U (by subst e;omega)};have hle:∀(i a b:Nat),c.bV[i]?=some a->z.bV[i]?=some b->a<=b:=λi a b ha hb=>by{match i with| 0 | 1 | 2 | 3=>{simp[aO.bV] at ha hb;omega}| _+4=>{simp[aO.bV] at ha}};rcases h.cover c hc with hx | hx | hx | ⟨w,hx⟩;{rcases h.next c hx with hy | hy | ⟨_,hy⟩;{cases hy};{rw[g] at hy;by_cases hm:Tree.mk p.aB 0 ts∈s.lists z.node;{exact .inl hm};{exact .inr (.inr ⟨hy,h.full _ (g▸(h.ok c hc).nl) hy _ hv hm⟩)}};{have hy:=hy p ab;have lt:∀(i a b:Nat),c.bV[i]?=some a->z.bV[i]?=some b->a<b->i<p.kids.length:=λi a b ha hb ba=>by{rcases AT i p.kids.length with h5 | h5;{exact h5};{have:=ar i b h5 hb;omega}};by_cases g0:c.r0<z.r0;{have hi:=hy 0 (lt 0 _ _ rfl rfl g0);exact ih (c.inc 0) hi g l g0 P R U (by show _-(c.r0+1+c.r1+c.r2+c.r3)<=D;omega)};by_cases C:c.r1<z.r1;{have hi:=hy 1 (lt 1 _ _ rfl rfl C);exact ih (c.inc 1) hi g l J C R U (by show _-(c.r0+(c.r1+1)+c.r2+c.r3)<=D;omega)};by_cases I:c.r2<z.r2;{have hi:=hy 2 (lt 2 _ _ rfl rfl I);exact ih (c.inc 2) hi g l J P I U (by show _-(c.r0+c.r1+(c.r2+1)+c.r3)<=D;omega)};by_cases g3:c.r3<z.r3;{have hi:=hy 3 (lt 3 _ _ rfl rfl g3);exact ih (c.inc 3) hi g l J P R g3 (by show _-(c.r0+c.r1+c.r2+(c.r3+1))<=D;omega)};exfalso;apply e;cases c;cases z;simp only at g l J P R U g0 C I g3;simp only[aO.mk.injEq];exact⟨g,l,by omega,by omega,by omega,by omega⟩}};{cases hx};{obtain⟨y,hy,rfl⟩:=tx.1 hx;obtain⟨q,us,e1,e2,e3⟩:=dw (h.xe y hy).2;rw[ab] at e1;cases e1;refine .inr (.inl ⟨y,hy,?_⟩);rw[e3];refine Lf _ (Hx (En (by rw[(cI e2).1,(cI j).1]) λi a b ha hb=>?_));have hi:=(gS ha).1;rw[(cI e2).1] at hi;obtain⟨k,hk⟩:∃k,p.kids[i]?=some k:=⟨_,gE hi⟩;obtain⟨r,t,a1,a2,a3⟩:=(cI e2).2 i k hk;obtain⟨r',t',b1,b2,b3⟩:=(cI j).2 i k hk;rw[ha] at a3;cases a3;rw[hb] at b3;cases b3;exact Iq (h.sorted k) (hle i _ _ a1 b1) a2 b2};{obtain⟨_,p',o,hm⟩:=h.p7 w c hx;rw[ab] at o;cases o;obtain⟨i,e1,e2,e3⟩:=j9 (k:=w.1) (r:=w.2) hm;obtain⟨r,t,C,I,_⟩:=(cI j).2 i _ e1;have:=hle i _ _ e2 C;have h5:=(gS I).1;rw[gE (show w.2<_ by omega)] at e3;cases e3}}
theorem MY{α:Type}{l:List α}{i:Nat}{a b:α}(h:i<l.length)(e:l.set i a=l.set i b):a=b:=by have f:=congrArg (λm=>m[i]?) e;simpa [h] using f
theorem Inv.Mz{f:Fo}(hf:f.Good){most:Nat}{s:oI}{done:List aO}(h:Inv f most s done [] [])(hb:nE f s):∀(N v:Nat) (p:gZ) (ts:List Tree),v<f.n->f.leaf v=none->p∈f.cg v->rI f p.kids ts->
  (Tree.mk p.aB 0 ts).pre.length*5+Mk s.lists p.kids ts<N->yG s most v (.mk p.aB 0 ts):=by
 intro N
 induction N with
 | zero=>intro v p ts _ _ _ _ hN;omega
 | succ N ih=>
  intro v p ts hv hl hp C hN;have ap:=(hf.kids v hv p hp).1;have hlen:=C.len;have R:NT f v (.mk p.aB 0 ts):=.node hv hl hp C;by_cases g:∀(i k:Nat) (t:Tree),p.kids[i]?=some k->ts[i]?=some t->t∈s.lists k
  ·obtain⟨rs,P,h2⟩:=EK hlen g;obtain⟨⟨a0,a1,a2,a3⟩,h3,h4⟩:=K2 rs zo;obtain⟨j,hj⟩:=TZ.1 hp;have ar:=(gS hj).1;have av:pick s.lists p.kids [a0,a1,a2,a3]=some ts:=wC hlen λi k hk=>by
    have hi:=(gS hk).1;obtain⟨t,I⟩:∃t,ts[i]?=some t:=⟨_,gE zo⟩;obtain⟨r,e1,e2⟩:=h2 i k t hk I;exact⟨r,t,h3 i r e1,e2,I⟩
   exact h.P1 hf (z:=⟨v,j,a0,a1,a2,a3⟩) hj av (λi r hi hr=>h4 i r zo hr) R ap _ ⟨v,j,0,0,0,0⟩ (hb v hv hl j ar) rfl rfl (BY _) (BY _) (BY _) (BY _) (mc _)
  ·have ⟨i,g⟩:=Classical.not_forall.1 g;have ⟨k,g⟩:=Classical.not_forall.1 g;have ⟨t,g⟩:=Classical.not_forall.1 g;have ⟨hk,g⟩:=Classical.not_imp.1 g;have ⟨I,U⟩:=Classical.not_imp.1 g;have ax:=C.at_ hk I;have aa:=gM I;have az:=KO (r:=p.aB) (t:=0) aa;have hu:=GV s.lists p.kids ts;have hB:yG s most k t:=by
    cases ax with
    | leaf h5 h6=>exact .inl (by rw[h.k5 k _ h5 h6];exact R2 ..)
    | @node _ q us h5 h6 h7 h8=>
     refine ih k q us h5 h6 h7 h8 ?_;have h9:=GV s.lists q.kids us;have b2:=(hf.kids k h5 q h7).1;have b3:(Tree.mk (q.aB:Int) 0 us).pre.length<(Tree.mk (p.aB:Int) 0 ts).pre.length:=by
      show _<(_::bT ts).length;have:=kZ aa;simp only[If];omega
     omega
   rcases hB with hB | ⟨y,hy,hB⟩ | ⟨b4,a8⟩
   ·exact absurd hB U
   ·exact .inr (.inl ⟨y,hy,.inl (rX hB az)⟩)
   ·have a9:i<ts.length:=(gS I).1;have small:∀x∈s.lists k,qJ (.mk p.aB 0 (ts.set i x)) (.mk p.aB 0 ts):=λx o=>E1 _ (Es I (a8 x o));have each:∀x∈s.lists k,yG s most v (.mk p.aB 0 (ts.set i x)):=λx o=>by
     refine ih v p (ts.set i x) hv hl hp (C.set hk (h.valid k x o)) ?_;have P:=Hs (L:=s.lists) hk I U o;have h2:=wM (.inl (small x o));omega
    by_cases hq:∃y∈s.q,Df y.2 (.mk p.aB 0 ts)
    ·exact .inr (.inl hq)
    by_cases l:(s.lists v).length=most/\∀z∈s.lists v,qJ z (.mk p.aB 0 ts)
    ·exact .inr (.inr l)
    have inl:∀x∈s.lists k,Tree.mk p.aB 0 (ts.set i x)∈s.lists v:=λx o=>by
     rcases each x o with P | ⟨y,hy,P⟩ | ⟨P,h2⟩
     ·exact P
     ·exact absurd ⟨y,hy,.inl (rX P (small x o))⟩ hq
     ·exact absurd ⟨P,λz hz=>mE (h2 z hz) (small x o)⟩ l
    exfalso;apply l
    classical
    have ad:((s.lists k).map λx=>Tree.mk p.aB 0 (ts.set i x)).Nodup:=by
     rw[Sw,TO];refine(Sw.1 (uO (h.sorted k))).imp λba e=>ba ?_;injection e with _ _ e;exact MY a9 e
    have J:∀z∈(s.lists k).map (λx=>Tree.mk p.aB 0 (ts.set i x)),z∈s.lists v:=λz hz=>by
     obtain⟨x,o,rfl⟩:=tx.1 hz;exact inl x o
    have bb:=pK _ _ ad J;have b5:=h.len v;rw[sh] at bb;refine⟨by omega,λz hz=>?_⟩;have:=H2 _ _ ad J (by rw[sh];omega) z hz;obtain⟨x,o,rfl⟩:=tx.1 this;exact small x o
theorem Inv.behind{f:Fo}(j:f.Good){most:Nat}{s:oI}{done:List aO}(h:Inv f most s done [] [])(l:nE f s){v:Nat}{T:Tree}(hT:NT f v T):yG s most v T:=by cases hT with| leaf g i=>{exact .inl (by rw[h.k5 v _ g i];exact R2 ..)}| node g i o p=>{exact h.Mz j l _ _ _ _ g i o p (Sp _)}
def jF(L:Nat->List Tree)(v:Nat)(T:Tree):Nat->List Tree:=λx=>if x=v then L v++[T] else L x
theorem ID(L:Nat->List Tree)(v:Nat)(T:Tree):I5 L (jF L v T):=λx=>by unfold jF;by_cases e:x=v;{subst e;exact⟨[T],by rw[nw rfl]⟩};{exact⟨[],by rw[mb e,R3]⟩}
theorem kg(L:Nat->List Tree)(v:Nat)(T:Tree):jF L v T v=L v++[T]:=nw rfl
theorem pI(L:Nat->List Tree){v x:Nat}(T:Tree)(h:x≠v):jF L v T x=L x:=mb h
theorem oX{L:Nat->List Tree}{v x:Nat}{T t:Tree}(h:t∈jF L v T x):t∈L x\/(x=v/\t=T):=by unfold jF at h;split at h;{rename_i e;subst e;rcases AI.1 h with h | h;{exact .inl h};{exact .inr ⟨rfl,n0.1 h⟩}};{exact .inl h}
theorem Inv.perm{f:Fo}{most:Nat}{s:oI}{q:List (aO×Tree)}{done j ex:List aO}(h:Inv f most s done j ex)(l:s.q.Perm q):Inv f most { s with q:=q } done j ex where
 ok:=h.ok
 snd:=h.snd
 nX:=h.nX
 uD:=h.uD
 FQ:=h.FQ
 Mn:=h.Mn
 H6:=(l.map _).nodup_iff.1 h.H6
 FB:=h.FB
 dq:=λc i=>⟨λg=>(h.dq c i).1 ((l.map _).mem_iff.2 g),(h.dq c i).2⟩
 pq:=λc i=>⟨λg=>(h.pq c i).1 ((l.map _).mem_iff.2 g),(h.pq c i).2⟩
 qw:=λc i=>h.qw c ((l.map _).mem_iff.2 i)
 xe:=λx g=>h.xe x (l.mem_iff.2 g)
 p7:=h.p7
 cover:=λc i=>(h.cover c i).imp id λg=>g.imp id λg=>g.imp (λg=>(l.map _).mem_iff.1 g) id
 next:=h.next
 k5:=h.k5
 from_:=h.from_
 len:=h.len
 sorted:=h.sorted
 ord:=λv o x g y p=>h.ord v o x g y (l.mem_iff.2 p)
 valid:=h.valid
 full:=h.full
 small:=h.small
theorem Inv.drop{f:Fo}{most:Nat}{s:oI}{q:List (aO×Tree)}{done:List aO}{c:aO}{T:Tree}(h:Inv f most { s with q:=(c,T)::q } done [] [])(g:(s.lists c.node).length=most):Inv f most { s with q:=q } (c::done) [] []:=by
 have p:=h.xe (c,T) me;obtain⟨i,j⟩:=Ss.1 (show (c::q.map (·.1)).Nodup from h.H6);have l:c∉done:=λhd=>(h.dq c hd).1 me;exact
 {ok:=h.ok
  snd:=h.snd
  nX:=λd hd=>by
   rcases IN.1 hd with rfl | hd
   ·exact p.1
   ·exact h.nX d hd
  uD:=h.uD
  FQ:=Ss.2 ⟨l,h.FQ⟩
  Mn:=h.Mn
  H6:=j
  FB:=h.FB
  dq:=λd hd=>by
   rcases IN.1 hd with rfl | hd
   ·exact⟨i,by simp,h.qw d me⟩
   ·exact⟨λhx=>(h.dq d hd).1 (ma _ hx),(h.dq d hd).2⟩
  pq:=λd hd=>by cases hd
  qw:=λd hd=>h.qw d (ma _ hd)
  xe:=λx hx=>h.xe x (ma _ hx)
  p7:=h.p7
  cover:=λd hd=>by
   rcases h.cover d hd with hx | hx | hx | hx
   ·exact .inl (ma _ hx)
   ·cases hx
   ·rcases IN.1 (show d∈c::q.map (·.1) from hx) with rfl | hx
    ·exact .inl me
    ·exact .inr (.inr (.inl hx))
   ·exact .inr (.inr (.inr hx))
  next:=λd hd=>by
   rcases IN.1 hd with rfl | hd
   ·exact .inr (.inl g)
   ·exact h.next d hd
  k5:=h.k5
  from_:=λv o T hT=>by
   obtain⟨d,r,t⟩:=h.from_ v o T hT;exact⟨d,ma _ r,t⟩
  len:=h.len
  sorted:=h.sorted
  ord:=λv o x hx y C=>h.ord v o x hx y (ma _ C)
  valid:=h.valid
  full:=h.full
  small:=h.small }
def si(s:oI)(c:aO)(T:Tree)(q:List (aO×Tree)):oI:=
 ⟨jF s.lists c.node T,s.seen,λw=>if w=(c.node,(s.lists c.node).length) then [] else s.waits w,q⟩
theorem JC{L f:Nat->List Tree}{ks rs:List Nat}{k r:Nat}{ts:List Tree}{t:Tree}(hm:mq L ks rs=some (k,r))(l:pick f ks rs=some ts)(o:(f k)[r]?=some t):t∈ts:=by obtain⟨i,p,C,_⟩:=j9 hm;obtain⟨J,P,g,j,I⟩:=(cI l).2 i k p;rw[C] at g;cases g;rw[o] at j;cases j;exact gM I
structure Qn(f:Fo)(most:Nat)(s:oI)(done:List aO)(c:aO)(T:Tree)(q:List (aO×Tree)):Prop where
 inv:Inv f most (si s c T q) (c::done) (s.waits (c.node,(s.lists c.node).length)) [c]
 top:∀v,f.leaf v=none->∀x∈(si s c T q).lists v,Df x T
 wait:∀d∈s.waits (c.node,(s.lists c.node).length),∀U,cP f (si s c T q).lists d=some U->qJ T U
 inc:∀p,eQ f c=some p->∀i,i<p.kids.length->lJ f most (c.inc i)/\∀U,cP f (si s c T q).lists (c.inc i)=some U->qJ T U
 Rz:T∈(si s c T q).lists c.node/\cP f (si s c T q).lists c=some T
theorem Inv.take{f:Fo}(hf:f.Good){most:Nat}{s:oI}{q:List (aO×Tree)}{done:List aO}{c:aO}{T:Tree}(h:Inv f most { s with q:=(c,T)::q } done [] [])(hb:nE f s)(an:∀y∈q,Df T y.2)(hn:(s.lists c.node).length<most)(bv:T.pre.length<=5000):Qn f most s done c T q:=by
 obtain⟨ag,R⟩:=h.xe (c,T) me;have ag:c∈s.seen:=ag;have R:cP f s.lists c=some T:=R;have g:=h.ok c ag;obtain⟨bx,b0⟩:=Ss.1 (show (c::q.map (·.1)).Nodup from h.H6);have bb:c∉done:=λhd=>(h.dq c hd).1 me;have hg:=ID s.lists c.node T;have J:∀v,∀t∈s.lists v,NT f v t:=h.valid;have C:∀v,(s.lists v).Pairwise qJ:=h.sorted;have hT:NT f c.node T:=FW J g R;have ao:∀v,f.leaf v=none->∀x∈s.lists v,Df x T:=λv hv x hx=>h.ord v hv x hx (c,T) me;have ac:∀x∈s.lists c.node,qJ x T:=λx hx=>by
  rcases ao c.node g.nl x hx with h1 | h1
  ·exact h1
  ·exfalso;have e:=hf.dec c.node x T (J _ x hx) hT h1;subst e;obtain⟨d,h2,h3,h4⟩:=h.from_ c.node g.nl x hx;have:=Ke hf J C (h.ok d (h.nX d h2)) g h3 h4 R;subst this;exact bb h2
 have ch:T∉s.lists c.node:=λhx=>wT _ (ac T hx);have ar:∀v,∀t∈jF s.lists c.node T v,NT f v t:=λv t ht=>by
  rcases oX ht with ht | ⟨rfl,rfl⟩
  ·exact J v t ht
  ·exact hT
 have ap:∀v,f.leaf v=none->∀x∈jF s.lists c.node T v,Df x T:=λv hv x hx=>by
  rcases oX hx with hx | ⟨_,rfl⟩
  ·exact ao v hv x hx
  ·exact gi _
 have P:∀v,(jF s.lists c.node T v).Pairwise qJ:=λv=>by
  unfold jF;split
  ·rw[List.pairwise_append];refine⟨C _,by simp,λa ha b hb=>?_⟩;rw[n0.1 hb];exact ac a ha
  ·exact C v
 have ax:(jF s.lists c.node T c.node)[(s.lists c.node).length]?=some T:=by
  rw[kg,R0 (mc _),Tr];rfl
 have az:nE f { s with q:=(c,T)::q }:=hb;have ae:=js hg R;have o:∀w,∀d∈(if w=(c.node,(s.lists c.node).length) then [] else s.waits w),d∈s.waits w:=λw d hd=>by
  split at hd
  ·cases hd
  ·exact hd
 refine⟨?_,ap,λd hd U I=>?_,λp hp i hi=>?_,?_,ae⟩
 ·exact
  {ok:=h.ok
   snd:=h.snd
   nX:=λd hd=>by
    rcases IN.1 hd with rfl | hd
    ·exact ag
    ·exact h.nX d hd
   uD:=λd hd=>(h.p7 _ d hd).1
   FQ:=Ss.2 ⟨bb,h.FQ⟩
   Mn:=h.FB _
   H6:=b0
   FB:=λw=>by
    show (if w=(c.node,(s.lists c.node).length) then [] else s.waits w).Nodup;split
    ·exact Tu
    ·exact h.FB w
   dq:=λd hd=>by
    rcases IN.1 hd with rfl | hd
    ·exact⟨bx,h.qw d me _,λw hw=>h.qw d me w (o w d hw)⟩
    ·exact⟨λhx=>(h.dq d hd).1 (ma _ hx),(h.dq d hd).2.2 _,λw hw=>(h.dq d hd).2.2 w (o w d hw)⟩
   pq:=λd hd=>⟨λhx=>h.qw d (ma _ hx) _ hd,λw hw=>by
    have h1:=o w d hw;obtain⟨_,p,hp,hm⟩:=h.p7 w d h1;obtain⟨_,p',bc,b4⟩:=h.p7 _ d hd;rw[hp] at bc;cases bc;have e:w=(c.node,(s.lists c.node).length):=mm (hm.symm.trans b4);have hw:d∈(if w=(c.node,(s.lists c.node).length) then [] else s.waits w):=hw;rw[nw e] at hw;cases hw⟩
   qw:=λd hd w hw=>h.qw d (ma _ hd) w (o w d hw)
   xe:=λx hx=>⟨(h.xe x (ma _ hx)).1,js hg (h.xe x (ma _ hx)).2⟩
   p7:=λw d hd=>by
    have h1:=o w d hd;have hd:d∈(if w=(c.node,(s.lists c.node).length) then [] else s.waits w):=hd;have b5:w≠(c.node,(s.lists c.node).length):=λe=>by rw[nw e] at hd;cases hd
    obtain⟨h2,p,hp,hm⟩:=h.p7 w d h1;refine⟨h2,p,hp,Bd hg hm ?_⟩;obtain⟨i,_,_,h3⟩:=j9 (k:=w.1) (r:=w.2) hm;have h3:(s.lists w.1)[w.2]?=none:=h3;by_cases e:w.1=c.node
    ·rw[e] at h3;rw[e,kg];rw[To] at h3 |-;rw[q0,SF];have:w.2≠(s.lists c.node).length:=λe2=>b5 (Prod.ext e e2);omega
    ·rw[pI _ _ e];exact h3
   cover:=λd hd=>by
    rcases h.cover d hd with hx | hx | hx | ⟨w,hx⟩
    ·exact .inl (ma _ hx)
    ·cases hx
    ·rcases IN.1 (show d∈c::q.map (·.1) from hx) with rfl | hx
     ·exact .inl me
     ·exact .inr (.inr (.inl hx))
    ·by_cases e:w=(c.node,(s.lists c.node).length)
     ·subst e;exact .inr (.inl hx)
     ·exact .inr (.inr (.inr ⟨w,by show d∈(if w=(c.node,(s.lists c.node).length) then [] else s.waits w);rw[mb e];exact hx⟩))
   next:=λd hd=>by
    rcases IN.1 hd with rfl | hd
    ·exact .inl me
    ·rcases h.next d hd with hx | hx | ⟨⟨U,h1,h2⟩,h3⟩
     ·cases hx
     ·have hx:(s.lists d.node).length=most:=hx;refine .inr (.inl ?_);show (jF s.lists c.node T d.node).length=most;rw[pI _ _ (λe=>by rw[e] at hx;omega)];exact hx
     ·refine .inr (.inr ⟨⟨U,?_,js hg h2⟩,h3⟩);obtain⟨x,hx⟩:=hg d.node;show U∈jF s.lists c.node T d.node;rw[hx];exact IT _ h1
   k5:=λv t hv ht=>by
    show jF s.lists c.node T v=_;rw[pI _ _ (λe=>by rw[e,g.nl] at ht;cases ht)];exact h.k5 v t hv ht
   from_:=λv hv U I=>by
    rcases oX I with I | ⟨rfl,rfl⟩
    ·obtain⟨d,h1,h2,h3⟩:=h.from_ v hv U I;exact⟨d,ma _ h1,h2,js hg h3⟩
    ·exact⟨c,R2 ..,rfl,ae⟩
   len:=λv=>by
    show (jF s.lists c.node T v).length<=most;unfold jF;split
    ·rw[q0,SF];omega
    ·exact h.len v
   sorted:=P
   ord:=λv hv x hx y hy=>kv (ap v hv x hx) (an y hy)
   valid:=ar
   full:=λv hv hl U I l x hx=>by
    by_cases e:v=c.node
    ·subst e;have l:U∉jF s.lists c.node T c.node:=l;rw[kg] at l;have b6:U∉s.lists c.node:=λh1=>l (IT _ h1);have b7:U≠T:=λh1=>l (by rw[h1];simp);have bd:qJ T U:=by
      have key:Df T U:=by
       rcases h.behind hf az I with h1 | ⟨y,hy,h1⟩ | ⟨h1,_⟩
       ·exact absurd h1 b6
       ·rcases IN.1 hy with rfl | hy
        ·exact h1
        ·exact kv (an y hy) h1
       ·have h1:(s.lists c.node).length=most:=h1;omega
      rcases key with h1 | h1
      ·exact h1
      ·exact absurd (hf.dec c.node T U hT I h1).symm b7
     rcases oX hx with hx | ⟨_,rfl⟩
     ·exact mE (ac x hx) bd
     ·exact bd
    ·have hl:(jF s.lists c.node T v).length=most:=hl;have l:U∉jF s.lists c.node T v:=l;have hx:x∈jF s.lists c.node T v:=hx;rw[pI _ _ e] at hl l hx;exact h.full v hv hl U I l x hx
   small:=λv U I=>by
    rcases oX I with I | ⟨rfl,rfl⟩
    ·exact h.small v U I
    ·exact bv }
 ·obtain⟨_,p,hp,hm⟩:=h.p7 _ d hd;obtain⟨p',ts,e1,e2,rfl⟩:=dw I;rw[hp] at e1;cases e1;exact KO (JC hm e2 ax)
 ·obtain⟨p',ts,e1,e2,e3⟩:=dw ae;rw[hp] at e1;cases e1;obtain⟨k,hk⟩:∃k,p.kids[i]?=some k:=⟨_,gE hi⟩;obtain⟨r,t,a1,a2,a3⟩:=(cI e2).2 i k hk;have a0:=c.IV a1;have al:=c.Ki i;have a4:eQ f (c.inc i)=some p:=by unfold eQ at hp |-;rw[al.1,al.2];exact hp
  have a5:i<c.bV.length:=(gS a1).1;refine⟨⟨by rw[al.1];exact g.node,by rw[al.1];exact g.nl,⟨p,a4⟩,λx hx=>?_,λp2 bf j x hj hx=>?_⟩,λU I=>?_⟩
  ·rw[a0] at hx;rcases Sy hx with hx | rfl
   ·exact g.Ek x hx
   ·obtain⟨p3,cs,g1,g2,_⟩:=dw R;rw[hp] at g1;cases g1;obtain⟨r3,t3,b1,b2,_⟩:=(cI g2).2 i k hk;rw[a1] at b1;cases b1;have h1:=(gS b2).1;have h2:(s.lists k).length<=most:=h.len k;omega
  ·rw[a4] at bf;cases bf;rw[a0,tj zo] at hx;exact g.zero p hp j x hj hx
  ·obtain⟨p3,us,g1,g2,rfl⟩:=dw I;rw[a4] at g1;cases g1;rw[a0] at g2;have h1:=cI g2;have h2:=cI e2;obtain⟨r',u,b1,b2,b3⟩:=h1.2 i k hk;rw[sj a5] at b1;obtain rfl:=mm b1;have e:us=ts.set i u:=by
    refine Sb λj=>?_;by_cases a8:i=j
    ·subst a8;rw[b3,sj (by rw[h2.1];exact hi)]
    ·rw[tj a8];by_cases hj:j<p.kids.length
     ·obtain⟨k2,bn⟩:∃k,p.kids[j]?=some k:=⟨_,gE hj⟩;obtain⟨r1,t1,c1,c2,c3⟩:=h1.2 j k2 bn;obtain⟨r2,t2,d1,d2,d3⟩:=h2.2 j k2 bn;rw[tj a8,d1] at c1;cases c1;have c2:(jF s.lists c.node T k2)[r1]?=some t1:=c2;rw[d2] at c2;cases c2;rw[c3,d3]
     ·rw[D2 (by rw[h1.1];omega),D2 (by rw[h2.1];omega)]
   rw[e3,e];refine E1 _ (AO a3 ?_);have hs:=P k;obtain⟨q1,rfl⟩:=gS a2;obtain⟨q2,rfl⟩:=gS b2;exact Sz.1 hs _ _ q1 q2 (Sp _)
 ·show T∈jF s.lists c.node T c.node;rw[kg];simp
theorem Inv.close{f:Fo}{most:Nat}{s:oI}{done:List aO}{c:aO}{T:Tree}(h:Inv f most s (c::done) [] [c])(g:T∈s.lists c.node)(j:cP f s.lists c=some T)(l:∀p,eQ f c=some p->∀i,i<p.kids.length->c.inc i∈s.seen):Inv f most s (c::done) [] []:=
 {h with
  next:=λd o=>by{rcases h.next d o with hx | hx;{rw[n0.1 hx];exact .inr (.inr ⟨⟨T,g,j⟩,l⟩)};{exact .inr hx }}}
structure BB(f:Fo)(v most:Nat)(l:List Tree):Prop where
 sorted:l.Pairwise qJ
 valid:∀T∈l,NT f v T
 len:l.length<=most
 small:∀T∈l,T.pre.length<=5000
 rest:∀T,NT f v T->T∉l->(∀x∈l,qJ x T)/\(l.length=most\/5000<T.pre.length)
theorem Inv.Ca{f:Fo}(l:f.Good){most:Nat}{s:oI}{done:List aO}(h:Inv f most s done [] [])(o:nE f s){v:Nat}(r:f.leaf v=none)(g:(s.lists v).length=most\/∀y∈s.q,5000<y.2.pre.length):BB f v most (s.lists v):=by (refine⟨h.sorted v,h.valid v,h.len v,h.small v,λT hT j=>?_⟩;rcases g with he | he);{exact⟨h.full v r he T hT j,.inl he⟩};{rcases h.behind l o hT with i | ⟨y,t,i⟩ | ⟨i,C⟩;{exact absurd i j};{have J:=he y t;have P:=wM i;exact⟨λx I=>.inl (by have:=h.small v x I;omega),.inr zo⟩};{exact⟨C,.inl i⟩}}
def jy:Ty Nat where
 size:=1
 rel:=λ_ l p=>l=[.pointer (some ⟨p,0,none⟩)]
 len:=λ_ _ _ h=>by rw[h];rfl
 one:=λ_ _ _ h=>by rw[h];rfl
 mono:=λ_ _ _ _ _ h=>h
mutual
inductive Sh(F:aw):Nat->Tree->Prop
 | mk {p:Nat} {r:Int} {t:Nat} {ks:List Tree} {a:Option Addr} {n c:Nat} {ps:List Nat}:F p=some (.cells false [.int .i64 r,.int .i64 t,.int .i64 ((Tree.mk r t ks).pre.length:Nat),.slice a n c])->a7 jy F a n c ps->k8 F ps ks->Sh F p (.mk r t ks)
inductive k8(F:aw):List Nat->List Tree->Prop
 | nil:k8 F [] []
 | cons {p:Nat} {t:Tree} {ps:List Nat} {ts:List Tree}:Sh F p t->k8 F ps ts->k8 F (p::ps) (t::ts)
end
mutual
theorem Sh.mono{F G:aw}(f:aw.le F G):∀{t:Tree} {p:Nat},Sh F p t->Sh G p t
 | .mk _ _ ks,_,.mk g i j=>.mk (f _ _ g) (i.mono f) (k8.mono f j)
theorem k8.mono{F G:aw}(f:aw.le F G):∀{ts:List Tree} {ps:List Nat},k8 F ps ts->k8 G ps ts
 | [],_,.nil=>.nil
 | _::_,_,.cons g i=>.cons (Sh.mono f g) (k8.mono f i)
end
theorem C6{F:aw}{a:Option Addr}{n c:Nat}{ps g:List Nat}(h:a7 jy F a n c ps)(o:a7 jy F a n c g):ps=g:=by refine UR (by rw[<-h.len,<-o.len]) λi hi I=>?_;obtain⟨b,off,ro,cs,l,J,P,R,j⟩:=h.el i _ (gE hi);obtain⟨b',p,U,aa,l',r,t,C,f⟩:=o.el i _ (gE I);rw[J] at r;cases r;rw[P] at t;cases t;rw[R] at C;cases C;have j:l=_:=j;rw[j] at f;have f:[Value.pointer (some ⟨ps[i],0,none⟩)]=[Value.pointer (some ⟨g[i],0,none⟩)]:=f;simpa using f
mutual
theorem Sh.uniq{F:aw}:∀{t u:Tree} {p:Nat},Sh F p t->Sh F p u->t=u
 | .mk _ _ ks,.mk _ _ C,_,.mk g i j,.mk f l o=>by{rw[g] at f;simp only[pr,aC.cells.injEq,Uk,Te,Value.int.injEq,Value.slice.injEq,Uw] at f;obtain⟨rfl,r,_,rfl,rfl,rfl⟩:=f;obtain rfl:=Int.ofNat_inj.1 r;obtain rfl:=C6 i l;rw[k8.uniq j o]}
theorem k8.uniq{F:aw}:∀{ts us:List Tree} {ps:List Nat},k8 F ps ts->k8 F ps us->ts=us
 | [],[],_,_,_=>rfl
 | [],_::_,_,.nil,h=>by cases h
 | _::_,[],_,.cons _ _,h=>by cases h
 | _::_,_::_,_,.cons f g,.cons i j=>by rw[Sh.uniq f i,k8.uniq g j]
end
theorem k8.len{F:aw}:∀{ps:List Nat} {ts:List Tree},k8 F ps ts->ts.length=ps.length
 | [],[],_=>rfl
 | _::_,_::_,.cons _ h=>by simp[k8.len h]
theorem k8.at_{F:aw}:∀{ps:List Nat} {ts:List Tree},k8 F ps ts->∀{i p:Nat} {t:Tree},ps[i]?=some p->ts[i]?=some t->Sh F p t
 | _::_,_::_,.cons h j,0,p,t,f,g=>by simp at f g;subst f g;exact h
 | _::_,_::_,.cons h j,i+1,p,t,f,g=>k8.at_ j (by simpa using f) (by simpa using g)
 | [],[],_,i,p,t,f,_=>by simp at f
theorem k8.app{F:aw}:∀{ps f:List Nat} {ts us:List Tree},k8 F ps ts->k8 F f us->k8 F (ps++f) (ts++us)
 | [],_,[],_,_,h=>h
 | _::_,_,_::_,_,.cons h g,i=>.cons h (k8.app g i)
theorem tP:∀(a b:List Tree),bT (a++b)=bT a++bT b
 | [],_=>rfl
 | t::a,b=>by{show t.pre++bT (a++b)=(t.pre++bT a)++bT b;rw[tP a b,AS]}
theorem CK(t:Tree):1<=t.pre.length:=by cases t with| mk r t ks=>{show 1<=(r::bT ks).length;simp}
theorem pU:∀(ts:List Tree),ts.length<=(bT ts).length
 | []=>mc _
 | t::ts=>by{have:=pU ts;have f:=CK t;show _<=(t.pre++bT ts).length;simp only[If,q0];omega}
theorem mT:∀(a:List Int) {x y:List Int},lexLt (a++x) (a++y)↔lexLt x y
 | [],_,_=>Iff.rfl
 | b::a,x,y=>by{show (b<b\/(b=b/\lexLt (a++x) (a++y)))↔_;rw[mT a];constructor;{rintro(h | h);{omega};{exact h.2}};{exact λh=>.inr ⟨rfl,h⟩}}
structure Rc where
 i:Nat
 v:Int
 a:Option Addr
 n:Nat
 c:Nat
 B:List (Nat×aC)
 ps:List Nat
structure QM where
 xa:Option Addr
 xn:Nat
 xc:Nat
 XB:List (Nat×aC)
 xs:List Nat
 X:List Tree
 ya:Option Addr
 yn:Nat
 yc:Nat
 YB:List (Nat×aC)
 ys:List Nat
 Y:List Tree
theorem k8.rev{F:aw}:∀{ps:List Nat} {ts:List Tree},k8 F ps ts->k8 F ps.reverse ts.reverse
 | [],[],_=>.nil
 | _::_,_::_,.cons h f=>by{rw[Un,Un];exact k8.app (k8.rev f) (.cons h .nil)}
theorem Jk(t:Tree)(ts:List Tree):bT (t::ts)=t.pre++bT ts:=rfl
theorem uw{F:aw}{ps:List Nat}{ts:List Tree}(h:k8 F ps ts)(C:0<ps.length):∃p t f g,ps=f++[p]/\ts=g++[t]/\k8 F f g/\Sh F p t/\ps[ps.length-1]?=some p/\ps.take (ps.length-1)=f:=by have j:=h.rev;cases i:ps.reverse with|nil=>{rw[List.reverse_eq_nil_iff] at i;subst i;simp at C}|cons p r=>{cases l:ts.reverse with|nil=>{rw[i,l] at j;cases j}|cons t us=>{rw[i,l] at j;cases j with|cons I J=>{have o:ps=r.reverse++[p]:=by{rw[<-Uz ps,i,Un]};have P:ts=us.reverse++[t]:=by{rw[<-Uz ts,l,Un]};refine⟨p,t,r.reverse,us.reverse,o,P,J.rev,I,?_,?_⟩;{rw[o];simp};{rw[o];simp}}}}
theorem zO(F:aw){p q:Nat}{a b:Tree}(ha:Sh F p a)(hb:Sh F q b)(cp:a.pre.length<=100000)(fs:b.pre.length<=100000) :
  Abs.Spec CC 303 [.pointer (some ⟨p,0,none⟩),.pointer (some ⟨q,0,none⟩)] F [] λ_ v o=>o=[]/\∃z,v=.int .i64 z/\(z<0↔qJ a b):=by
 cases ha with
 | @mk _ ar at_ ao aa an ac ft ct cv cx=>
 cases hb with
 | @mk _ br bt ap ba bn bc fv av ax c0=>
 refine Abs.Spec.fn (n:=124) Tryz.func303 rfl rfl λown=>?_;refine aq ?_;refine AW.cond Z (λhc=>?_) (λhc=>?_)
 ·have a8:(Tree.mk ar at_ ao).pre.length≠(Tree.mk br bt ap).pre.length:=λe=>by rw[e] at hc;simp at hc
  refine aq ?_;refine WT.aX Tryz.func124 Z Z Z Z Z Z (du _ _ _) (λv hv=>?_);subst hv;refine aq ?_;refine AW.ret ⟨_,[],⟨_,_,rfl,rfl,rfl⟩,bw,rfl,_,rfl,?_⟩;unfold aY qJ wj;constructor
  ·intro h;left;split at h
   ·omega
   ·split at h<;>omega
  ·rintro(h | h)
   ·rw[nw zo];decide
   ·exact absurd h.1 a8
 ·have heq:(Tree.mk ar at_ ao).pre.length=(Tree.mk br bt ap).pre.length:=by simp at hc;omega
  have hA:Sh F p (.mk ar at_ ao):=.mk ct cv cx;have hB:Sh F q (.mk br bt ap):=.mk av ax c0;generalize Tree.mk ar at_ ao=a at *;generalize Tree.mk br bt ap=b at *;refine aq ?_;refine WT.aS hT Z Z Z Z Z Z Z Z Z Z Z Z Z Z (λi30 ex=>?_);refine aq ?_;refine WT.aS hT Z Z Z Z Z Z Z Z Z Z Z Z Z Z (λi32 ey=>?_);refine aq ?_;refine AW.block ?_;refine AW.cr (S:=QM) (λs=>[(5,.slice s.xa s.xn s.xc),(6,.slice s.ya s.yn s.yc)]) (λs=>s.YB::s.XB::own)
   (λs G=>GB jy G s.xa s.xn s.xc s.XB s.xs/\k8 G s.xs s.X/\GB jy G s.ya s.yn s.yc s.YB s.ys/\k8 G s.ys s.Y/\(bT s.X.reverse).length=(bT s.Y.reverse).length/\(lexLt a.pre b.pre↔lexLt (bT s.X.reverse) (bT s.Y.reverse))/\(bT s.X.reverse).length<=100000)
   (λs=>(bT s.X.reverse).length) ⟨_,_,_,_,[p],[a],_,_,_,_,[q],[b]⟩
   sM oR ⟨⟨rfl,.inr ⟨_,_,[],rfl,rfl,rfl,aF.single (R:=jy) rfl,by decide⟩⟩,.cons hA .nil,⟨rfl,.inr ⟨_,_,[],rfl,rfl,rfl,aF.single (R:=jy) rfl,by decide⟩⟩,.cons hB .nil,?_,?_,?_⟩ ?_
  ·simpa [bT] using heq
  ·simp[bT]
  ·simpa [bT] using cp
  intro s F1 f2 hP;obtain⟨hx,hX,hy,hY,hlen,r,af⟩:=hP;have b0:=hx.len;have b3:=hy.len;refine aq ?_;have f4:=hX.len;have f5:=hY.len;have c2:=pU s.X.reverse;have c4:=pU s.Y.reverse;rw[List.length_reverse] at c2 c4;have full:0<s.xn->0<s.yn:=λh=>by
   obtain⟨p1,t1,ae,f,e1,e2,_,_,_,_⟩:=uw hX zo;rw[e2] at hlen;simp only[TR,Un,List.reverse_nil,Uf,SR,Jk,q0] at hlen;have:=CK t1;rcases Sd s.yn with h0 | h0
   ·exfalso;have:s.Y=[]:=D1 zo;have:(bT s.Y.reverse).length=0:=by rw[this];rfl
    omega
   ·exact h0
  refine WT.split 36 Z (λbb=>?_) (λbb=>?_);rotate_left
  ·have c5:s.X=[]:=D1 (by simp at bb;omega);refine aq ?_;refine AW.cond Z (λh=>(by cases h)) (λ_=>?_);refine AW.exit ?_;refine aq ?_;refine AW.ret ⟨_,[],⟨_,_,rfl,rfl,rfl⟩,bw,rfl,_,rfl,?_⟩;have b5:bT s.X.reverse=[]:=by rw[c5];rfl
   have c6:bT s.Y.reverse=[]:=D1 (by rw[<-hlen,b5];rfl);rw[b5,c6] at r;constructor
   ·intro h;omega
   ·rintro(h | h)
    ·omega
    ·exact(r.1 h.2).elim
  ·have c8:0<s.xn:=by simpa using bb
   have f6:=full c8;obtain⟨p1,t1,ae,f,c9,dd,b6,az,df,dl⟩:=uw hX zo;obtain⟨q1,u1,ag,J,ds,dv,b8,a0,d0,d1⟩:=uw hY zo;refine ai ?_;refine AW.cond Z (λ_=>?_) (λh=>?_);rotate_left
   ·simp at h;omega
   refine ai ?_;refine AW.block ?_;refine ai ?_;refine WT.wu hT hx Z Z Z Z Z Z Z Z Z zo (λb1 av=>?_);refine WT.K7 (x:=p1) hT 1 hx av (by rw[b0];exact df) Z Z Z Z Z Z (λz hz=>hz) Z Z Z (λv hv=>?_);obtain rfl:v=_:=(Uj.1 hv);refine ai ?_;refine WT.wu hT hy Z Z Z Z Z Z Z Z Z zo (λb2 ax=>?_);refine WT.K7 (x:=q1) hT 0 hy ax (by rw[b3];exact d0) Z Z Z Z Z Z (λz hz=>hz) Z Z Z (λv hv=>?_);obtain rfl:v=_:=(Uj.1 hv);refine ai ?_;refine WT.BZ hT hx Z Z Z Z Z Z Z Z Z (show s.xn-1<=s.xn by omega) ?_;refine ai ?_
   refine WT.BZ hT hy Z Z Z Z Z Z Z Z Z (show s.yn-1<=s.yn by omega) ?_;refine ai ?_;have a1:=(hx.take (show s.xn-1<=s.xn by omega));have a2:=(hy.take (show s.yn-1<=s.yn by omega));rw[show s.xs.take (s.xn-1)=ae by rw[b0];exact dl] at a1;rw[show s.ys.take (s.yn-1)=ag by rw[b3];exact d1] at a2;have fx:∃cs,F1 p1=some (.cells false cs):=by cases az with | mk h _ _=>exact⟨_,h⟩
   have fy:∃cs,F1 q1=some (.cells false cs):=by cases a0 with | mk h _ _=>exact⟨_,h⟩
   obtain⟨f8,fx⟩:=fx;obtain⟨f9,fy⟩:=fy;have g:(bT s.X.reverse)=t1.pre++bT f.reverse:=by rw[dd,TR];rfl
   have bd:(bT s.Y.reverse)=u1.pre++bT J.reverse:=by rw[dv,TR];rfl
   have a5:=af;have d3:=hlen;rw[g,bd] at hlen r;rw[g] at af;refine WT.ptrEq hT Z Z Z Z Z Z fx fy Z Z Z ?_;refine ai ?_;refine AW.cond Z (λhe=>?_) (λhe=>?_)
   ·obtain rfl:p1=q1:=by simpa using he
    obtain rfl:=Sh.uniq az a0;refine AW.exit ?_;refine⟨⟨_,_,_,_,ae,f,_,_,_,_,ag,J⟩,?_,sM,c7,a1,b6,a2,b8,?_,?_,?_⟩
    ·show (bT f.reverse).length<_;have:=CK t1;rw[g,q0];omega
    ·simp only[q0] at hlen;show (bT f.reverse).length=(bT J.reverse).length;omega
    ·rw[r,mT]
    ·simp only[q0] at af;show (bT f.reverse).length<=_;omega
   have ga:=az;have gd:=a0;cases az with
   | @mk _ tr tt l ta tn tc be g1 g2 g3=>
   cases a0 with
   | @mk _ ur ut t ua un uc bf k1 k2 k3=>
   refine ai ?_;refine AW.cond Z (λhc=>?_) (λhc=>?_)
   ·have a8:tr≠ur:=by simpa using hc
    refine ai ?_;refine WT.aX Tryz.func124 Z Z Z Z Z Z (du _ _ _) (λv hv=>?_);subst hv;refine ai ?_;refine AW.ret ⟨_,[],⟨_,_,rfl,rfl,rfl⟩,bw,rfl,_,rfl,?_⟩;have e:lexLt a.pre b.pre↔tr<ur:=by
     rw[r];show (tr<ur\/(tr=ur/\_))↔_;constructor
     ·rintro(h | h)
      ·exact h
      ·exact absurd h.1 a8
     ·exact λh=>.inl h
    unfold aY qJ wj;constructor
    ·intro h;right;refine⟨heq,e.2 ?_⟩;split at h
     ·assumption
     ·split at h<;>omega
    ·rintro(h | h)
     ·omega
     ·rw[nw (e.1 h.2)];decide
   ·obtain rfl:tr=ur:=by simpa using hc
    have gs:=g2.len;have g0:=k2.len;have gl:=g3.len;have kl:=k3.len;have av:tn<=100000:=by
     have h1:=pU l;have h2:(Tree.mk tr tt l).pre.length=(bT l).length+1:=rfl;rw[q0,h2] at af;omega
    have ax:un<=100000:=by
     have h1:=pU t;have h2:(Tree.mk tr ut t).pre.length=(bT t).length+1:=rfl;have h3:=hlen;rw[q0,q0,h2] at h3;rw[q0] at af;omega
    have fc:=a1.len;have fd:=a2.len;have fi:s.xs.length=ae.length+1:=by rw[c9];simp
    have fk:s.ys.length=ag.length+1:=by rw[ds];simp
    refine aq ?_;refine AW.block ?_;refine AW.cr (S:=Rc) (λz=>[(9,.int .i64 z.v),(5,.slice z.a z.n z.c)]) (λz=>s.YB::z.B::own)
     (λz G=>GB jy G z.a z.n z.c z.B z.ps/\z.i<=tn/\z.ps=ae++be.reverse.take z.i/\z.v=(tn:Int)-1-z.i) (λz=>tn-z.i) ⟨0,_,_,_,_,_,ae⟩
     sM oR ⟨a1,BY _,by simp,by simp⟩ ?_
    intro z F2 C hQ;obtain⟨hz,bi,P,d6⟩:=hQ;have d7:=hz.len;have d8:z.ps.length<=300000:=by
     rw[P];simp;omega
    have gA:=(C) _ _ g1;have gB:=g2.mono (C);refine aq ?_;refine AW.cond Z (λU=>?_) (λU=>?_)
    ·have U:z.i<tn:=by simp at U;omega
     refine aq ?_;refine AW.block ?_;refine aq ?_;refine WT.dk (v':=.int .i64 ((tn-1-z.i:Nat):Int)) 99 Z (by congr 1;omega) ?_;refine WT.bk (j:=tn-1-z.i) hT gB Z Z Z Z Z Z Z Z Z zo (λy bl b7 ca ea eb bo ec ee ab=>?_);obtain rfl:bo=_:=ab;refine aq ?_;refine WT.aS hT Z Z Z Z Z Z Z Z Z Z Z Z Z Z (λi9 eh=>?_);refine WT.wG (ys:=[y]) hT 2 hz Z (λ_=>rfl) Z Z Z Z Z Z Z Z Z Z Z (λh0 s0=>aT hT s0 0 Z Z Z Z) (aF.single (R:=jy) (x:=y) rfl) Z (by decide) gT (λa3 c3 B3 bs=>?_);refine aq ?_
     refine⟨⟨z.i+1,z.v-1,a3,z.n+1,c3,B3,z.ps++[y]⟩,by show tn-(z.i+1)<tn-z.i;omega,sM,c7,bs.gb,by show z.i+1<=tn;omega,?_,by show z.v-1=_-_-((z.i+1:Nat):Int);omega⟩;show z.ps++[y]=_++be.reverse.take (z.i+1);rw[P,yf,List.getElem?_reverse zo,show be.length-1-z.i=tn-1-z.i by omega,bl,AS];rfl
    ·have bi:z.i=tn:=by simp at U;omega
     rw[bi,pf (by simp;omega)] at P;have es:=hz;have cc:=P;have g8:=C _ _ k1;refine AW.exit ?_;refine aq ?_;refine AW.block ?_;refine AW.cr (S:=Rc) (λz=>[(10,.int .i64 z.v),(6,.slice z.a z.n z.c)]) (λzz=>zz.B::z.B::own)
      (λz G=>GB jy G z.a z.n z.c z.B z.ps/\z.i<=un/\z.ps=ag++bf.reverse.take z.i/\z.v=(un:Int)-1-z.i) (λz=>un-z.i) ⟨0,_,_,_,_,_,ag⟩
      sM oR ⟨(a2.mono C),BY _,by simp,by simp⟩ ?_
     intro I F3 ad hQ;obtain⟨hz,bi,P,d6⟩:=hQ;have d7:=hz.len;have d8:I.ps.length<=300000:=by
      rw[P];simp;omega
     have gA:=(C.trans ad) _ _ k1;have gB:=k2.mono (C.trans ad);refine aq ?_;refine AW.cond Z (λU=>?_) (λU=>?_)
     ·have U:I.i<un:=by simp at U;omega
      refine aq ?_;refine AW.block ?_;refine aq ?_;refine WT.dk (v':=.int .i64 ((un-1-I.i:Nat):Int)) 119 Z (by congr 1;omega) ?_;refine WT.bk (j:=un-1-I.i) hT gB Z Z Z Z Z Z Z Z Z zo (λy bl b7 ca ea eb bo ec ee ab=>?_);obtain rfl:bo=_:=ab;refine aq ?_;refine WT.aS hT Z Z Z Z Z Z Z Z Z Z Z Z Z Z (λi9 eh=>?_);refine WT.wG (ys:=[y]) hT 1 hz Z (λ_=>rfl) Z Z Z Z Z Z Z Z Z Z Z (λh0 s0=>aT hT s0 0 Z Z Z Z) (aF.single (R:=jy) (x:=y) rfl) Z (by decide) gT (λa3 c3 B3 bs=>?_);refine aq ?_
      refine⟨⟨I.i+1,I.v-1,a3,I.n+1,c3,B3,I.ps++[y]⟩,by show un-(I.i+1)<un-I.i;omega,sM,c7,bs.gb,by show I.i+1<=un;omega,?_,by show I.v-1=_-_-((I.i+1:Nat):Int);omega⟩;show I.ps++[y]=_++bf.reverse.take (I.i+1);rw[P,yf,List.getElem?_reverse zo,show bf.length-1-I.i=un-1-I.i by omega,bl,AS];rfl
     ·have cf:I.i=un:=by simp at U;omega
      rw[cf,pf (by simp;omega)] at P;have ev:GB jy F3 z.a z.n z.c z.B z.ps:=es.mono ad;refine AW.exit ?_;have e1:bT (f++l.reverse).reverse=bT l++bT f.reverse:=by
       rw[TR,Uz,tP]
      have e2:bT (J++t.reverse).reverse=bT t++bT J.reverse:=by
       rw[TR,Uz,tP]
      have e3:(Tree.mk tr tt l).pre=tr::bT l:=rfl;have e4:(Tree.mk tr ut t).pre=tr::bT t:=rfl;rw[e3,e4] at hlen r;rw[e3] at g;refine⟨⟨_,_,_,z.B,z.ps,f++l.reverse,_,_,_,I.B,I.ps,J++t.reverse⟩,?_,sM,c7,ev,?_,hz,?_,?_,?_,?_⟩
      ·show (bT (f++l.reverse).reverse).length<(bT s.X.reverse).length;rw[e1,g];simp
      ·show k8 F3 z.ps (f++l.reverse);rw[cc];exact k8.app (b6.mono (C.trans ad)) (g3.mono (C.trans ad)).rev
      ·show k8 F3 I.ps (J++t.reverse);rw[P];exact k8.app (b8.mono (C.trans ad)) (k3.mono (C.trans ad)).rev
      ·show (bT (f++l.reverse).reverse).length=(bT (J++t.reverse).reverse).length;rw[e1,e2];simp only[SR,If,q0] at hlen |-;omega
      ·show _↔lexLt (bT (f++l.reverse).reverse) (bT (J++t.reverse).reverse);rw[r,e1,e2];exact mT [tr]
      ·show (bT (f++l.reverse).reverse).length<=100000;rw[e1];rw[g] at a5;simp only[SR,If] at a5;omega
def cV(Q:List (aO×Tree))(i:Nat):List Int:=match Q[i]? with
 | some x=>x.2.pre
 | none=>[]
def iY(Q:List (aO×Tree))(n:Nat):Prop:=∀i,0<i->i<n->tR (cV Q ((i-1) / 2)) (cV Q i)
structure Dj(Q:List (aO×Tree))(j:Nat):Prop where
 one:∀k,0<k->k<Q.length->k≠j->tR (cV Q ((k-1) / 2)) (cV Q k)
 two:∀k,0<k->k<Q.length->(k-1) / 2=j->0<j->tR (cV Q ((j-1) / 2)) (cV Q k)
structure ou(Q:List (aO×Tree))(j n:Nat):Prop where
 one:∀k,0<k->k<n->(k-1) / 2≠j->tR (cV Q ((k-1) / 2)) (cV Q k)
 two:∀k,0<k->k<n->(k-1) / 2=j->0<j->tR (cV Q ((j-1) / 2)) (cV Q k)
theorem cm{Q:List (aO×Tree)}{i:Nat}{x:aO×Tree}(h:Q[i]?=some x):cV Q i=x.2.pre:=by unfold cV;rw[h]
theorem qN{Q:List (aO×Tree)}{i j:Nat}{x y:aO×Tree}(hi:Q[i]?=some x)(l:Q[j]?=some y)(k:Nat):cV ((Q.set i y).set j x) k=if k=j then cV Q i else if k=i then cV Q j else cV Q k:=by have o:=(gS hi).1;have p:=(gS l).1;unfold cV;rw[Tn,Tn];by_cases f:k=j;{subst f;simp[p,hi]};{by_cases g:k=i;{subst g;simp[o,l,f,Ne.symm f]};{simp[f,g,Ne.symm f,Ne.symm g]}}
theorem nz{α:Type}{Q:List α}{i j:Nat}{x y:α}(hi:Q[i]?=some x)(f:Q[j]?=some y):((Q.set i y).set j x).Perm Q:=by obtain⟨g,rfl⟩:=gS hi;obtain⟨l,rfl⟩:=gS f;exact Go.Sort.perm_set_set Q i j g l
theorem Dj.stop{Q:List (aO×Tree)}{j:Nat}(h:Dj Q j)(hj:j=0\/tR (cV Q ((j-1) / 2)) (cV Q j)):iY Q Q.length:=λi f g=>by by_cases e:i=j;{subst e;rcases hj with hj | hj;{omega};{exact hj}};{exact h.one i f g e}
theorem Dj.step{Q:List (aO×Tree)}{j:Nat}(h:Dj Q j)(P:0<j){x y:aO×Tree}(hi:Q[(j-1) / 2]?=some x)(I:Q[j]?=some y)(l:wj (cV Q j) (cV Q ((j-1) / 2))):Dj ((Q.set ((j-1) / 2) y).set j x) ((j-1) / 2):=by have sw:=qN hi I;have o:(j-1) / 2≠j:=by{omega};refine⟨λk r f t=>?_,λk r f t R=>?_⟩;{simp only[Su] at f;rw[sw,sw];by_cases i:k=j;{subst i;rw[mb o,nw rfl,nw rfl];exact .inl l};{rw[mb i (c:=k=j),mb t];by_cases g:(k-1) / 2=j;{rw[nw g];exact h.two k r f g P};{rw[mb g];by_cases C:(k-1) / 2=(j-1) / 2;{rw[nw C];have:=h.one k r f i;rw[C] at this;exact .inl (M6 l this)};{rw[mb C];exact h.one k r f i}}}};{simp only[Su] at f;rw[sw,sw];have U:((j-1) / 2-1) / 2≠j:=by{omega};have i:((j-1) / 2-1) / 2≠(j-1) / 2:=by{omega};rw[mb U,mb i];have aa:=(gS I).1;have J:=h.one ((j-1) / 2) R zo o;by_cases g:k=j;{rw[nw g];exact J};{rw[mb g,mb zo];have:=h.one k r f g;rw[t] at this;exact kv J this}}
theorem ou.stop{Q:List (aO×Tree)}{j n:Nat}(h:ou Q j n)(l:∀k,0<k->k<n->(k-1) / 2=j->tR (cV Q j) (cV Q k)):iY Q n:=λi f g=>by by_cases e:(i-1) / 2=j;{rw[e];exact l i f g e};{exact h.one i f g e}
theorem ou.step{Q:List (aO×Tree)}{i j n:Nat}(h:ou Q i n)(hn:n<=Q.length)(R:0<j)(t:j<n)(f:(j-1) / 2=i){x y:aO×Tree}(U:Q[i]?=some x)(hy:Q[j]?=some y)(C:wj (cV Q j) (cV Q i))(g:∀k,0<k->k<n->(k-1) / 2=i->tR (cV Q j) (cV Q k)) :
  ou ((Q.set i y).set j x) j n:=by have sw:=qN U hy;have ab:i≠j:=by{omega};refine⟨λk l o I=>?_,λk l o I h4=>?_⟩;{rw[sw,sw];rw[mb I];by_cases J:k=j;{subst J;rw[nw f,nw rfl];exact .inl C};{rw[mb J (c:=k=j)];by_cases r:(k-1) / 2=i;{rw[nw r,mb zo];exact g k l o r};{rw[mb r];by_cases P:k=i;{subst P;rw[nw rfl];have:=h.two j R t f l;exact this};{rw[mb P];exact h.one k l o r}}}};{rw[sw,sw,f,mb zo,nw rfl,mb zo,mb zo];have:=h.one k l o zo;rw[I] at this;exact this}
theorem Hl{Q:List (aO×Tree)}(h:iY Q Q.length):∀i,i<Q.length->tR (cV Q 0) (cV Q i):=by intro i;induction i using Nat.strongRecOn with| _ i f=>{intro hi;by_cases e:i=0;{subst e;exact gi _};{exact kv (f ((i-1) / 2) zo zo) (h i zo hi)}}
theorem LK{Q:List (aO×Tree)}(h:iY Q Q.length){x y:aO×Tree}(f:Q[0]?=some x)(g:y∈Q):Df x.2 y.2:=by obtain⟨i,hi⟩:=TZ.1 g;have:=Hl h i (gS hi).1;rw[cm f,cm hi] at this;exact this
theorem xZ{Q:List (aO×Tree)}{n i:Nat}(h:i<n):cV (Q.take n) i=cV Q i:=by unfold cV;rw[Sg,nw h]
theorem Bn{Q:List (aO×Tree)}{x:aO×Tree}{i:Nat}(h:i<Q.length):cV (Q++[x]) i=cV Q i:=by unfold cV;rw[By h]
theorem iY.push{Q:List (aO×Tree)}(h:iY Q Q.length)(x:aO×Tree):Dj (Q++[x]) Q.length:=by refine⟨λk g f i=>?_,λk g f i j=>?_⟩;{simp at f;rw[Bn zo,Bn zo];exact h k g zo};{simp at f;omega}
theorem iY.pop{Q:List (aO×Tree)}(h:iY Q Q.length){n:Nat}(o:n+1=Q.length){x y:aO×Tree}(i:Q[0]?=some x)(j:Q[n]?=some y):ou ((Q.set 0 y).set n x) 0 n:=by have sw:=qN i j;refine⟨λk f l g=>?_,λk f l g r=>by omega⟩;rw[sw,sw,mb zo,mb g,mb zo,mb zo];exact h k f zo
theorem iY.take{Q:List (aO×Tree)}{n:Nat}(h:iY Q n)(j:n<=Q.length):iY (Q.take n) (Q.take n).length:=λi f g=>by rw[R5] at g;rw[xZ zo,xZ zo];exact h i f zo
def sd(C:Ctx)(t:Nat)(name:String):Option (FuncId×Bool):=match C.info t with
 | some i=>match i.methods.find? (·.name==name) with
  | some m=>bif m.path.isEmpty then m.func else none
  | none=>none
 | none=>none
theorem uY{t e:Nat}{r:Row}{name:String}{f:FuncId}{v:Value}(hm:sd CC t name=some (f,true))(l:rowOf rows t=some r)(o:r.d=.pointer e)(h:au):gI CC h (.iface t v) name=some (f,v):=by have hu:=iB hT l o;unfold sd at hm;cases hi:CC.info t with|none=>{rw[hi] at hm;cases hm}|some i=>{rw[hi] at hm;simp only at hm;unfold gI;simp only[hi,hu];cases j:i.methods.find? (·.name==name) with|none=>{rw[j] at hm;cases hm}|some m=>{rw[j] at hm;simp only at hm;cases g:m.path.isEmpty with|false=>{rw[g] at hm;cases hm}|true=>{rw[g] at hm;simp only[xf] at hm;simp only[g,xf,hm]}}}
theorem dU{t e:Nat}{r:Row}{name:String}{f:FuncId}{v x:Value}{h:au}(hm:sd CC t name=some (f,false))(l:rowOf rows t=some r)(o:r.d=.pointer e)(p:jU CC h e v=some x):gI CC h (.iface t v) name=some (f,x):=by have hu:=iB hT l o;unfold sd at hm;cases hi:CC.info t with|none=>{rw[hi] at hm;cases hm}|some i=>{rw[hi] at hm;simp only at hm;unfold gI;simp only[hi,hu];cases j:i.methods.find? (·.name==name) with|none=>{rw[j] at hm;cases hm}|some m=>{rw[j] at hm;simp only at hm;cases g:m.path.isEmpty with|false=>{rw[g] at hm;cases hm}|true=>{rw[g] at hm;simp only[xf] at hm;simp only[g,xf,hm,p];rfl}}}
theorem Ew:sd CC 317 "Len" = some (300,false):=by decide +kernel
theorem p8:sd CC 317 "Less" = some (301,false):=by decide +kernel
theorem pg:sd CC 317 "Swap" = some (302,false):=by decide +kernel
theorem JF:sd CC 317 "Push" = some (305,true):=by decide +kernel
theorem Mc:sd CC 317 "Pop" = some (304,true):=by decide +kernel
def gX(c:aO)(t:Value):List Value:=[.int .i64 c.node,.int .i64 c.pack,.int .i64 c.r0,.int .i64 c.r1,.int .i64 c.r2,.int .i64 c.r3,t]
def w5:Ty (aO×Tree) where
 size:=7
 rel:=λF l x=>∃p,l=gX x.1 (.pointer (some ⟨p,0,none⟩))/\Sh F p x.2/\x.2.pre.length<=100000
 len:=λ_ _ _ h=>by obtain⟨p,rfl,_⟩:=h;rfl
 one:=λ_ _ _ h=>by obtain⟨p,rfl,_⟩:=h;rfl
 mono:=λ_ _ _ _ f h=>by obtain⟨p,e,h,g⟩:=h;exact⟨p,e,h.mono f,g⟩
structure LB where
 li:Nat
 x0:Value
 x1:Value
 x2:Value
 x3:Value
 x4:Value
 x5:Value
 ok:one x0=true/\one x1=true/\one x2=true/\one x3=true/\one x4=true/\one x5=true
def lN(L:LB)(a:Option Addr)(n c:Nat):List Value:=[L.x0,L.x1,L.x2,L.x3,L.x4,L.x5,.slice a n c]
def lB(L:LB)(a:Option Addr)(n c:Nat)(B:List (Nat×aC)):List (Nat×aC):=(L.li,.cells false (lN L a n c))::B
def BO(L:LB):Value:=.pointer (some ⟨L.li,6,none⟩)
def qI(L:LB):Value:=.iface 317 (BO L)
theorem Bg(F:aw)(a:Option Addr)(n c:Nat):Abs.Spec CC 300 [.slice a n c] F [] λ_ v o=>o=[]/\v=.int .i64 (n:Nat):=by refine Abs.Spec.fn (n:=5) Tryz.func300 rfl rfl λown=>?_;refine aq ?_;exact AW.ret ⟨_,[],⟨_,_,rfl,rfl,rfl⟩,bw,rfl,rfl⟩
theorem GJ(G:aw){a:Option Addr}{n c:Nat}{Q:List (aO×Tree)}(C:a7 w5 G a n c Q){i k:Nat}{x y:aO×Tree}(hi:Q[i]?=some x)(hk:Q[k]?=some y) :
  Abs.Spec CC 301 [.slice a n c,.int .i64 (i:Nat),.int .i64 (k:Nat)] G [] λ_ v o=>o=[]/\∃b,v=.bool b/\(b=true↔qJ x.2 y.2):=by have ab:=C.len;have ac:=(gS hi).1;have ad:=(gS hk).1;refine Abs.Spec.fn (n:=19) Tryz.func301 rfl rfl λown=>?_;refine aq ?_;refine WT.bk hT C Z Z Z Z Z Z Z Z Z zo (λz f b7 U ae af ag I l g=>?_);rw[hi] at f;cases f;obtain⟨p,rfl,J,P⟩:=g;unfold gX at l;refine aq ?_;refine WT.bk hT C Z Z Z Z Z Z Z Z Z zo (λz f b8 aa al an ao ap R j=>?_);rw[hk] at f;cases f;obtain⟨q,rfl,r,t⟩:=j;unfold gX at R;clear l I;refine aq ?_;refine WT.aX Tryz.func303 Z Z Z Z Z Z (zO _ J r P t) (λv hv=>?_);obtain⟨z,rfl,f⟩:=hv;refine aq ?_;exact AW.ret ⟨_,[],⟨_,_,rfl,rfl,rfl⟩,bw,rfl,_,rfl,by simpa using f⟩
theorem FL(L:LB)(a:Option Addr)(n c:Nat)(B:List (Nat×aC))(own:bH):ah ([(L.li,.cells false (lN L a n c))]::B::own) (lB L a n c B::own):=ah.flat (Tz (by simp[lB]))
theorem Bx(L:LB)(a:Option Addr)(n c:Nat)(B:List (Nat×aC))(own:bH):ah (lB L a n c B::own) ([(L.li,.cells false (lN L a n c))]::B::own):=ah.flat (Tz (by simp[lB]))
theorem nv(F:aw)(L:LB){a:Option Addr}{n c:Nat}{B:List (Nat×aC)}{Q:List (aO×Tree)}(f:GB w5 F a n c B Q){i k:Nat}{x y:aO×Tree}(hi:Q[i]?=some x)(hk:Q[k]?=some y) :
  Abs.Spec CC 302 [.slice a n c,.int .i64 (i:Nat),.int .i64 (k:Nat)] F [lB L a n c B] λF' v o=>∃R,o=[R]/\∃U,R=lB L a n c U/\GB w5 F' a n c U ((Q.set i y).set k x):=by have ab:=f.len;have ac:=(gS hi).1;have ad:=(gS hk).1;refine Abs.Spec.fn (n:=20) Tryz.func302 rfl rfl λown=>?_;refine AW.le (FL _ _ _ _ _ _) (aq ?_);refine WT.wu hT f Z Z Z Z Z Z Z Z Z zo (λb1 r=>?_);refine WT.Md hT 1 f r hk Z Z Z Z Z Z (λz g=>g) Z Z Z (λl hl=>?_);refine aq ?_;refine WT.wu hT f Z Z Z Z Z Z Z Z Z zo (λb2 t=>?_);refine WT.Md hT 1 f t hi Z Z Z Z Z Z (λz g=>g) Z Z Z (λl2 C=>?_);refine WT.wu hT f Z Z Z Z Z Z Z Z Z zo (λb3 I=>?_);refine WT.QZ (y:=y) hT 1 f I hi Z Z Z Z Z hl Z (λ_=>rfl) Z (λB6 j=>?_);obtain⟨z,g⟩:∃z,(Q.set i y)[k]?=some z:=⟨_,gE (by simp;omega)⟩;refine WT.wu hT j Z Z Z Z Z Z Z Z Z zo (λb4 J=>?_);refine WT.QZ (y:=x) hT 1 j J g Z Z Z Z Z C Z (λ_=>rfl) Z (λB7 P=>?_);refine WT.le (Bx _ _ _ _ _ _) (aq ?_);exact⟨_,[_],rfl,bw,_,rfl,B7,rfl,P⟩
theorem IZ(F:aw)(L:LB){a:Option Addr}{n c:Nat}{B:List (Nat×aC)}{Q:List (aO×Tree)}(f:GB w5 F a (n+1) c B Q)(U:n<=1000000000000){x:aO×Tree}(t:Q[n]?=some x) :
  Abs.Spec CC 304 [BO L] F [lB L a (n+1) c B] λC v o=>∃r,o=[r]/\r=lB L a n c B/\∃l,v=.iface 314 (.agg ⟨l⟩)/\w5.rel C l x:=by have I:=f.len;unfold lB lN BO;refine Abs.Spec.fn (n:=23) Tryz.func304 rfl rfl λown=>?_;refine AW.le (FL L a (n+1) c B own) ?_;unfold lN;refine ai ?_;refine WT.dk (v':=.int .i64 (n:Nat)) 11 Z (by simp) (WT.wu hT f Z Z Z Z Z Z Z Z Z zo (λb1 g=>?_));refine WT.Md hT 1 f g t Z Z Z Z Z Z (λz J=>J) Z Z Z (λl P=>?_);obtain⟨p,rfl,i,j⟩:=P;unfold gX;refine WT.aG hT Z Z Z Z Z Z (λi4 R=>?_);refine ai ?_;refine WT.dk (v':=.int .i64 (n:Nat)) 18 Z (by simp) (WT.BZ hT f Z Z Z Z Z Z Z Z Z (show n<=n+1 by omega) (aq ?_));refine WT.Ck hT Z Z Z Z Z Z (aq ?_);refine AW.le (ah.skip _ (Bx L a n c B own)) (AW.ret ⟨_,[_],⟨_,_,rfl,rfl,rfl⟩,bw,_,rfl,rfl,_,rfl,p,rfl,i,j⟩)
theorem Hg(F:aw)(L:LB){a:Option Addr}{n c:Nat}{B:List (Nat×aC)}{Q:List (aO×Tree)}(i:GB w5 F a n c B Q)(hn:n<=1000000000000){x:aO×Tree}{l:List Value}(j:w5.rel F l x) :
  Abs.Spec CC 305 [BO L,.iface 314 (.agg ⟨l⟩)] F [lB L a n c B] λF' v o=>∃r,o=[r]/\∃t C I,r=lB L t (n+1) C I/\GB w5 F' t (n+1) C I (Q++[x]):=by have ab:=i.len;have f:=j;obtain⟨p,rfl,ac,ad⟩:=j;unfold lB lN BO;refine Abs.Spec.fn (n:=13) Tryz.func305 rfl rfl λown=>?_;refine AW.le (FL L a n c B own) ?_;unfold lN;refine AW.draw (ps:=[(3,6)]) Z Z (aq ?_);refine WT.Ib hT Z Z Z Z Z Z ?_;unfold gX;refine WT.aS hT Z Z Z Z Z Z Z Z Z Z Z Z Z Z (λi9 ae=>?_);refine WT.wG (ys:=[x]) hT 2 i Z (λ_=>rfl) Z Z Z Z Z Z Z Z Z Z Z (λh0 s0=>aT hT s0 0 Z Z Z Z) (aF.single (R:=w5) (x:=x) f) Z (by decide) gT (λJ P U g=>?_);refine ze hT Z Z Z Z Z (zs hT 1 0 Z Z Z Z Z Z Z Z Z Z Z Z (WT.le (ah.skip _ (Bx L J (n+1) P U own)) (aq ?_)));refine⟨k9,?_⟩;exact⟨_,[_],rfl,bw,_,rfl,J,P,U,rfl,g.gb⟩
end Go.Proofs.D