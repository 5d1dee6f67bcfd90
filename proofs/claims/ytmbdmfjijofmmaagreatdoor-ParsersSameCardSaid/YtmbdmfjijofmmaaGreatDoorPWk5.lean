/-
  Walks: what functions of the program do, over the abstract machine.
-/
import Derived.Test.YtmbdmfjijofmmaaGreatDoorPWk4
set_option linter.unusedVariables false
set_option maxRecDepth 20000
set_option maxHeartbeats 0
open Go Go.Abs Go.Proofs Go.Proofs.D
set_option linter.unusedVariables false
set_option maxRecDepth 20000
set_option maxHeartbeats 0
open Go Go.Abs Go.Proofs Go.Proofs.D
namespace Go.Proofs.D
structure NB where
 xs:List Bool
 B:List (Nat×aE)
def QI(g:ai):Nat->Item->Prop:=λk x=>AE g.rules k x
structure PX where
 fi:Nat
 ga:Option Addr
 gm:Nat
 gc:Nat
 q:NI
 s:Kp
 wa:Option Addr
 wn:Nat
 wc:Nat
 BW:List (Nat×aE)
 w:List Nat
 E:List Bool
structure Nk(g:ai)(F:ar)(f:PX):Prop where
 rules:bj cC F f.ga f.gm f.gc g.rules
 ends:Jn g f.E
 I8:O9 (trimmed f.E g) (QI (trimmed f.E g)) f.q F f.s
 k:f.s.k=f.w.length
 sD:MH (trimmed f.E g) f.w (LS f.s)
 word:dR dD F f.wa f.wn f.wc f.BW f.w
 ok:∀t∈f.w,t<g.ae
theorem Nk.mono{g:ai}{F G:ar}{f:PX}(h:Nk g F f)(hF:ar.le F G):Nk g G f:=⟨h.rules.mono hF,h.ends,h.I8.mono hF,h.k,h.sD,h.word.mono hF,h.ok⟩
structure P3(g:ai)(f:PX)(xs:List Bool):Prop where
 len:xs.length=g.ae+1
 term:∀t,t<g.ae->(xs[t]?=some true↔∃x∈f.s.last,qm (trimmed f.E g).rules x=some ⟨true,t⟩)
 done:xs[g.ae]?=some (ph g f.w g.start 0 f.w.length)
structure Pl where
 k:Nat
 lists:List (List Item)
 sa:Option Addr
 sc:Nat
 BS:List (Nat×aE)
 vs:List Value
 la:Option Addr
 lc:Nat
 BL:List (Nat×aE)
 us:List Value
structure Pf(g:ai)(Q:Nat->Item->Prop)(q:NI)(F:ar)(s:Pl):Prop where
 rules:bj cC F q.ra q.rm q.rc g.rules
 sD:GB xC F s.sa (s.k+1) s.sc s.BS s.vs
 list:GB xC F s.la (s.k+1) s.lc s.BL s.us
 len:s.lists.length=s.k+1
 M6:∀(j:Nat) (l:List Item),s.lists[j]?=some l->∃a n c,s.us[j]?=some (.slice a n c)/\bj HM F a n c l
 all:∀(j:Nat) (l:List Item),s.lists[j]?=some l->∀x∈l,Q j x
 small:s.k<=20
 MY:∀(j:Nat) (l:List Item),s.lists[j]?=some l->l.length<=3360
 nd:∀(j:Nat) (l:List Item),s.lists[j]?=some l->l.Nodup
theorem Pf.mono{g:ai}{Q:Nat->Item->Prop}{q:NI}{F G:ar}{s:Pl}(h:Pf g Q q F s)(hF:ar.le F G):Pf g Q q G s:=
 ⟨h.rules.mono hF,h.sD.mono hF,h.list.mono hF,h.len,λj l hj=>by obtain⟨a,n,c,h1,h2⟩:=h.M6 j l hj;exact⟨a,n,c,h1,h2.mono hF⟩,h.all,h.small,h.MY,h.nd⟩
def LZ(s:Pl):Nat->List Item:=λj=>s.lists.getD j []
def QP(g:ai)(w:List Nat):Nat->Item->Prop:=λk x=>AE g.rules k x/\(k<=w.length->∀L,MH g (w.take k) L->x∈L k)
structure FZ where
 fi:Nat
 ga:Option Addr
 gm:Nat
 gc:Nat
 q:NI
 s:Pl
 wa:Option Addr
 wn:Nat
 wc:Nat
 BW:List (Nat×aE)
 w:List Nat
 E:List Bool
structure PL(g:ai)(F:ar)(f:FZ):Prop where
 rules:bj cC F f.ga f.gm f.gc g.rules
 ends:Jn g f.E
 I8:Pf (trimmed f.E g) (QP (trimmed f.E g) f.w) f.q F f.s
 k:f.s.k=f.w.length
 sD:MH (trimmed f.E g) f.w (LZ f.s)
 word:GB dD F f.wa f.wn f.wc f.BW f.w
 ok:∀t∈f.w,t<g.ae
theorem PL.mono{g:ai}{F G:ar}{f:FZ}(h:PL g F f)(hF:ar.le F G):PL g G f:=⟨h.rules.mono hF,h.ends,h.I8.mono hF,h.k,h.sD,h.word.mono hF,h.ok⟩
structure Qm(g:ai)(f:FZ)(xs:List Bool):Prop where
 len:xs.length=g.ae+1
 term:∀t,t<g.ae->(xs[t]?=some true↔∃x∈LZ f.s f.s.k,qm (trimmed f.E g).rules x=some ⟨true,t⟩)
 done:xs[g.ae]?=some (ph g f.w g.start 0 f.w.length)
def DW(g:ai)(y:List Nat)(l:List Sym):Prop:=ni g y l 0 y.length
theorem Hp{g:ai}(hg:Valid g)(hP:∀n,n<g.au->oS g n)(k d:Nat):∃v,DW g v ((bg g k).drop d):=
 rP _ λy hy=>by
  have:=tL hg k y (TY hy);obtain⟨b,n⟩:=y;cases b with
  | true=>exact .inl rfl
  | false=>exact .inr (hP n this)
theorem Lc{α:Type}{l:List α}{d:Nat}{a:α}(h:l[d]?=some a):l.drop d=a::l.drop (d+1):=List.drop_eq_getElem?_toList_append.trans (by rw[h];rfl)
inductive rr(g:ai)(w:List Nat)(p c:Nat):Sym->Nat->Nat->Prop
 | leaf:rr g w p c ⟨true,c⟩ p 0
 | node {k:Nat} {r:bW} {pre post:List Sym} {s:Sym} {ts:List Tree} {i m n:Nat}:g.rules[k]?=some r->r.right=pre++s::post->aI g w pre ts i m->rr g w p c s m n->rr g w p c ⟨false,r.left⟩ i (n+(BG ts).length+1)
mutual
theorem bD.spine{g:ai}{w:List Nat}{p c:Nat}(hc:w[p]?=some c):∀{T:Tree} {X:Sym} {i j:Nat},bD g w X T i j->i<=p->p<j->∃n,rr g w p c X i n
 | .mk _ _ _,_,i,_,.leaf h,h1,h2=>by
  obtain rfl:i=p:=by omega
  rw[hc] at h;obtain rfl:=BY h;exact⟨0,.leaf⟩
 | .mk _ _ ks,_,i,j,.node h h2,h3,h4=>by
  obtain⟨pre,s,post,ts,m,n,e1,e2,e3⟩:=aI.spine hc h2 h3 h4;exact⟨_,.node h e1 e2 e3⟩
theorem aI.spine{g:ai}{w:List Nat}{p c:Nat}(hc:w[p]?=some c):∀{ts:List Tree} {l:List Sym} {i j:Nat},aI g w l ts i j->i<=p->p<j->∃pre s post ts1 m n,l=pre++s::post/\aI g w pre ts1 i m/\rr g w p c s m n
 | [],_,i,_,.nil,h1,h2=>by omega
 | T::ts,_,i,j,.cons (s:=s) (l:=l) (m:=m) h1 h2,h3,h4=>by
  rcases R2 p m with h5 | h5
  ·obtain⟨n,hn⟩:=bD.spine hc h1 h3 h5;exact⟨[],s,l,[],i,n,rfl,.nil,hn⟩
  ·obtain⟨pre,s',post,ts1,m',n,e1,e2,e3⟩:=aI.spine hc h2 h5 h4;exact⟨s::pre,s',post,T::ts1,m',n,by rw[e1];rfl,.cons h1 e2,e3⟩
end
theorem dq.app{g:ai}{l m:List Sym}{t:Nat}(h:dq g l t):dq g (l++m) t:=by
 obtain⟨pre,s,post,e,h1,h2⟩:=h;exact⟨pre,s,post++m,by rw[e];simp,h1,h2⟩
theorem dq.behind{g:ai}:∀{l m:List Sym} {t:Nat},gP g l->dq g m t->dq g (l++m) t
 | [],_,_,_,h=>h
 | s::l,m,t,hl,h=>dq.cons (hl s me).1 (hl s me).2 (dq.behind (λx hx=>hl x (If _ hx)) h)
theorem rr.begin{g:ai}{w:List Nat}{p c:Nat}(hc:w[p]?=some c){X:Sym}{i n:Nat}(h:rr g w p c X i n):i<=p/\∃c',w[i]?=some c'/\(X=⟨true,c'⟩\/(X.term=false/\Fg g X.n c')):=by
 induction h with
 | leaf=>exact⟨AS _,c,hc,.inl rfl⟩
 | @node k r pre post s ts i m n hr he ht _ ih=>
  obtain⟨h1,c',h2,h3⟩:=ih;have hle:=(aI.le ht).1;obtain⟨b1,b2⟩:=aI.begin ht;have hm:=gM hr;refine⟨by omega,?_⟩;rcases R2 i m with h4 | h4
  ·obtain⟨c2,hc2,h5⟩:=b2 h4;exact⟨c2,hc2,.inr ⟨rfl,.of hm (by rw[he];exact h5.app)⟩⟩
  ·obtain rfl:i=m:=by omega
   exact⟨c',h2,.inr ⟨rfl,.of hm (by rw[he];exact dq.behind (b1 rfl) (.head h3))⟩⟩
section
variable {g:ai}{it:Nat->Lr->Prop}{la:Nat->Lr->Nat->Prop}{go:Nat->Sym->Option Nat}{act:Nat->Nat->Act}{w:List Nat}
theorem G6(hg:Valid g)(hP:∀n,n<g.au->oS g n)(x:Lr):(∃t,dq g (cI g x) t)\/gP g (cI g x):=by
 obtain⟨v,hv⟩:=Hp hg hP x.az (x.dot+1);obtain⟨ts,ht⟩:∃ts,aI g v (cI g x) ts 0 v.length:=by
  have h:ni g v (cI g x) 0 v.length:=hv;refine ni.rec (motive_1:=λs i j _=>∃T,bD g v s T i j) (motive_2:=λl i j _=>∃ts,aI g v l ts i j) ?_ ?_ ?_ ?_ h
  ·intro t i h;exact⟨_,.leaf h⟩
  ·intro r i j hr _ ⟨ts,h2⟩;obtain⟨k,hk⟩:=UD hr;exact⟨_,.node hk h2⟩
  ·intro i;exact⟨[],.nil⟩
  ·intro s l i m j _ _ ⟨T,h1⟩ ⟨ts,h2⟩;exact⟨_,.cons h1 h2⟩
 obtain⟨b1,b2⟩:=aI.begin ht;rcases TP v.length with h | h
 ·exact .inr (b1 h.symm)
 ·obtain⟨c,_,h2⟩:=b2 h;exact .inl ⟨c,h2⟩
theorem KP(hg:Valid g)(hP:∀n,n<g.au->oS g n)(ok:qx g it la go){s:Nat}{x:Lr}{k:Nat}{r:bW}(hx:it s x)(hu:∃u,la s x u)(ha:aQ g x=some ⟨false,r.left⟩)(hr:g.rules[k]?=some r):∃u,la s ⟨k,0⟩ u:=by
 obtain⟨u,hu⟩:=hu;rcases G6 hg hP x with ⟨t,h⟩ | h
 ·exact⟨t,ok.fP hx hu ha hr (.inl h)⟩
 ·exact⟨u,ok.fP hx hu ha hr (.inr ⟨h,hu⟩)⟩
theorem aI.J6(ok:qx g it la go)(on:LD g it la go act)(hw:∀t∈w,t<g.ae){rest:List Sym}:∀{ts:List Tree} {l:List Sym} {i m:Nat},aI g w l ts i m->∀{σ:List Nat} {τ:List Tree} {k d:Nat} {r:bW},g.rules[k]?=some r->it (km σ) ⟨k,d⟩->(∃u,la (km σ) ⟨k,d⟩ u)->r.right.drop d=l++rest->dq g rest (lookW g w m)->
  ∃σ' n,σ'.length=ts.length/\it (km (σ++σ')) ⟨k,d+l.length⟩/\(∃u,la (km (σ++σ')) ⟨k,d+l.length⟩ u)/\n<=(BG ts).length/\FK g go act w ((σ,τ),i) n ((σ++σ',τ++ts),m)
 | [],_,i,_,.nil,σ,τ,k,d,r,hk,hit,hla,hd,hb=>by
  refine⟨[],0,rfl,?_,?_,R6 _,?_⟩
  ·rw[Sq];exact hit
  ·rw[Sq];exact hla
  ·rw[Sq,Sq];exact .refl
 | T::ts,s::l,i,j,.cons (m:=m) h1 h2,σ,τ,k,d,r,hk,hit,⟨u,hla⟩,hd,hb=>by
  have hd1:r.right[d]?=some s:=by rw[<-List.head?_drop,hd];rfl
  have hd2:r.right.drop (d+1)=l++rest:=by rw[<-List.tail_drop,hd];rfl
  have haf:aQ g ⟨k,d⟩=some s:=by rw[bV];show (bg g k)[d]?=_;rw[cD hk];exact hd1
  have hrest:cI g ⟨k,d⟩=l++rest:=by unfold cI;show (bg g k).drop (d+1)=_;rw[cD hk];exact hd2
  obtain⟨b1,b2⟩:=aI.begin h2;have hle:=(aI.le h2).1;have hal:kQ g la (km σ) ⟨k,d⟩ (lookW g w m):=by
   unfold kQ;rw[hrest];left;by_cases hm:m<j
   ·obtain⟨c,hc,h5⟩:=b2 hm;rw[lA hc];exact h5.app
   ·obtain rfl:m=j:=by omega
    exact dq.behind (b1 rfl) hb
  obtain⟨s',n1,e1,e2,e3⟩:=bD.run ok on hw h1 hit ⟨_,hla⟩ haf hal;obtain⟨s2,f1,f2,f3⟩:=ok.step hit haf;rw[e1] at f1;obtain rfl:=BY f1;obtain⟨σ',n2,g1,g2,g3,g4,g5⟩:=aI.J6 ok on hw h2 (σ:=σ++[s']) (τ:=τ++[T]) (k:=k) (d:=d+1) (r:=r) hk (by rw[pj];exact f2) ⟨u,by rw[pj];exact f3 _ hla⟩ hd2 hb;have e:∀x:List Nat,σ++[s']++x=σ++(s'::x):=λx=>by simp
  have e':∀x:List Tree,τ++[T]++x=τ++(T::x):=λx=>by simp
  rw[e] at g2 g3 g5;rw[e'] at g5;have e6:d+1+l.length=d+(s::l).length:=by rw[R4];omega
  rw[e6] at g2 g3;refine⟨s'::σ',n1+n2,by rw[R4,g1];rfl,g2,g3,?_,e3.trans g5⟩;show _<=(T.pre++BG ts).length;rw[RP];omega
theorem rr.run(hg:Valid g)(hP:∀n,n<g.au->oS g n)(ok:qx g it la go)(on:LD g it la go act)(hw:∀t∈w,t<g.ae){p c:Nat}(hc:w[p]?=some c){X:Sym}{i n:Nat}(h:rr g w p c X i n) :
  ∀{σ:List Nat} {τ:List Tree} {x:Lr},it (km σ) x->(∃u,la (km σ) x u)->aQ g x=some X->∃σ' τ' n' s',n'<=n/\FK g go act w ((σ,τ),i) n' ((σ',τ'),p)/\act (km σ') c=.shift s':=by
 induction h with
 | leaf=>
  intro σ τ x hx hu ha;obtain⟨s',h1,h2,h3⟩:=ok.step hx ha;exact⟨σ,τ,0,s',AS _,.refl,on.all (.shift (hw c (gM hc)) h1)⟩
 | @node k r pre post s ts i m n hr he ht hs ih=>
  intro σ τ x hx hu ha;have hk0:=ok.x7 hx ha hr;have hk1:=KP hg hP ok hx hu ha hr;obtain⟨_,c',hc',hb⟩:=hs.begin hc;obtain⟨σ',n1,e1,e2,e3,e4,e5⟩:=aI.J6 ok on hw ht (σ:=σ) (τ:=τ) (k:=k) (d:=0) (r:=r) (rest:=s::post) hr hk0 hk1 (by rw[Ux];exact he) (by rw[lA hc'];exact .head hb);rw[RY] at e2 e3;have haf:aQ g ⟨k,pre.length⟩=some s:=by
   rw[bV];show (bg g k)[pre.length]?=_;rw[cD hr,he];simp
  obtain⟨σ2,τ2,n2,s',g1,g2,g3⟩:=ih (τ:=τ++ts) e2 e3 haf;exact⟨σ2,τ2,n1+n2,s',by omega,e5.trans g2,g3⟩
end
section
variable {g:ai}{it:Nat->Lr->Prop}{la:Nat->Lr->Nat->Prop}{go:Nat->Sym->Option Nat}{w:List Nat}{p n:Nat}{G:Gr}
structure jE(g:ai)(go:Nat->Sym->Option Nat)(w:List Nat)(p n:Nat)(G:Gr):Prop where
 wf:N1 G
 key:∀x∈aU G,x.1<=p/\x.2<n/\∃σ τ,Hc g go w (σ++[x.2]) τ x.1
 Ab:∀x y,y∈bq G x->y∈aU G/\∃X T,go y.2 X=some x.2/\bD g w X T y.1 x.1
theorem jE.first(hn:0<n):jE g go w 0 n [((0,0),[])] where
 wf:=⟨by simp[aU],λe he=>by rw[RK.1 he];exact T7⟩
 key:=λx hx=>by
  obtain rfl:x=(0,0):=by simpa [aU] using hx
  exact⟨AS _,hn,[],[],.nil⟩
 Ab:=λx y hy=>by
  exfalso;unfold bq at hy;split at hy
  ·cases hy
  ·cases hy
theorem jE.up(h:jE g go w p n G){q:Nat}(hq:p<=q):jE g go w q n G:=⟨h.wf,λx hx=>⟨AI (h.key x hx).1 hq,(h.key x hx).2⟩,h.Ab⟩
theorem jE.add(h:jE g go w p n G){y:Nd}(hy:y∈aU G){X:Sym}{s' i:Nat}(hgo:go y.2 X=some s')(hs:s'<n){T:Tree}(hT:bD g w X T y.1 i)(hi:i<=p):jE g go w p n (eY G (i,s') y) where
 wf:=h.wf.add _ _
 key:=λx hx=>by
  rcases fq.1 hx with hx | rfl
  ·exact h.key x hx
  ·obtain⟨_,_,σ,τ,hl⟩:=h.key y hy;exact⟨hi,hs,_,_,.snoc hl hgo hT⟩
 Ab:=λx z hz=>by
  rcases dz.1 hz with hz | ⟨rfl,rfl⟩
  ·obtain⟨h1,h2⟩:=h.Ab x z hz;exact⟨fq.2 (.inl h1),h2⟩
  ·exact⟨fq.2 (.inl hy),X,T,hgo,hT⟩
theorem jE.sN(h:jE g go w p n G):qZ G<=((p+1)*n)*((p+1)*n):=Nt h.wf (λx hx=>⟨(h.key x hx).1,(h.key x hx).2.1⟩) λx y hy=>(h.Ab x y hy).1
theorem jE.low(h:jE g go w p n G){x y:Nd}:∀{d:Nat},Dl G d x y->y.1<=x.1
 | 0,e=>by obtain rfl:y=x:=e;exact AS _
 | d+1,⟨z,h1,h2⟩=>by
  obtain⟨_,X,T,_,hT⟩:=h.Ab _ _ h2;exact AI (bD.le hT).1 (h.low h1)
theorem jE.NY(h:jE g go w p n G){x y:Nd}(hx:x∈aU G):∀{d:Nat},Dl G d x y->y∈aU G
 | 0,e=>by obtain rfl:y=x:=e;exact hx
 | d+1,⟨z,h1,h2⟩=>(h.Ab _ _ h2).1
theorem jE.Js(h:jE g go w p n G){t b x y:Nd}(hx:x.1<t.1):∀{d:Nat},Dl (eY G t b) d x y↔Dl G d x y
 | 0=>Iff.rfl
 | d+1=>by
  constructor
  ·rintro⟨z,h0,h2⟩;have h3:=(h.Js hx).1 h0;rcases dz.1 h2 with h4 | ⟨e,_⟩
   ·exact⟨z,h3,h4⟩
   ·have:=h.low h3;rw[e] at this;omega
  ·rintro⟨z,h1,h2⟩;exact⟨z,(h.Js hx).2 h1,dz.2 (.inl h2)⟩
theorem jE.under(ok:qx g it la go)(h:jE g go w p n G){x:Nd}{k m:Nat}(hit:it x.2 ⟨k,m⟩)(hm:m<=(bg g k).length):∀{d:Nat} {y:Nd},d<=m->Dl G d x y->it y.2 ⟨k,m-d⟩/\∃ts,aI g w (((bg g k).take m).drop (m-d)) ts y.1 x.1
 | 0,y,_,e=>by
  obtain rfl:y=x:=e;refine⟨hit,[],?_⟩;rw[List.drop_eq_nil_of_le (by rw[Sm];omega)];exact .nil
 | d+1,y,hd,⟨z,h1,h2⟩=>by
  obtain⟨h3,ts,h4⟩:=h.under ok hit hm zo h1;obtain⟨_,X,T,h5,h6⟩:=h.Ab _ _ h2;have e:m-d=(m-(d+1))+1:=by omega
  rw[e] at h3 h4;obtain⟨h7,h8⟩:=ok.back h5 h3;rw[bV] at h8;have h8:(bg g k)[m-(d+1)]?=some X:=h8;refine⟨h7,T::ts,?_⟩;rw[Lc (l:=(bg g k).take m) (d:=m-(d+1)) (a:=X) (by rw[Sg,By zo];exact h8)];exact .cons h6 h4
theorem jE.red(ok:qx g it la go)(h:jE g go w p n G){x y:Nd}{k:Nat}{r:bW}(hr:g.rules[k]?=some r)(hit:it x.2 ⟨k,r.right.length⟩)(hd:Dl G r.right.length x y):∃s' T,go y.2 ⟨false,r.left⟩=some s'/\bD g w ⟨false,r.left⟩ T y.1 x.1:=by
 have hrl:=cD hr;obtain⟨h1,ts,h2⟩:=h.under ok hit (by rw[hrl];exact AS _) (AS _) hd;rw[TW,Ux,hrl,T6] at h2;rw[TW] at h1;obtain⟨s',hs'⟩:=ok.fill h1 hr;exact⟨s',_,hs',.node hr h2⟩
def pS(g:ai)(it:Nat->Lr->Prop)(la:Nat->Lr->Nat->Prop)(go:Nat->Sym->Option Nat)(G:Gr)(j t:Nat):Prop:=
 ∀s k r,(j,s)∈aU G->g.rules[k]?=some r->it s ⟨k,r.right.length⟩->la s ⟨k,r.right.length⟩ t->∀x,Dl G r.right.length (j,s) x->∀s',go x.2 ⟨false,r.left⟩=some s'->x∈bq G (j,s')
def Ae(go:Nat->Sym->Option Nat)(G:Gr)(j t:Nat):Prop:=∀s s',(j,s)∈aU G->go s ⟨true,t⟩=some s'->(j,s)∈bq G (j+1,s')
theorem pS.add(h:jE g go w p n G){j t:Nat}(hr:pS g it la go G j t){a b:Nd}(ha:j<a.1):pS g it la go (eY G a b) j t:=by
 intro s k r h1 h2 h3 h4 x h5 s' h6;rcases fq.1 h1 with h1 | e
 ·exact dz.2 (.inl (hr s k r h1 h2 h3 h4 x ((h.Js ha).1 h5) s' h6))
 ·rw[<-e] at ha;exact absurd ha (Tr _)
theorem Ae.add{j t:Nat}(hr:Ae go G j t){a b:Nd}(ha:j<a.1):Ae go (eY G a b) j t:=by
 intro s s' h1 h2;rcases fq.1 h1 with h1 | e
 ·exact dz.2 (.inl (hr s s' h1 h2))
 ·rw[<-e] at ha;exact absurd ha (Tr _)
mutual
theorem bD.graph(ok:qx g it la go)(hR:∀j,j<=p->pS g it la go G j (lookW g w j))(hS:∀j t,j<p->w[j]?=some t->Ae go G j t):∀{T:Tree} {X:Sym} {i j:Nat},bD g w X T i j->j<=p->∀{s:Nat} {x:Lr},(i,s)∈aU G->it s x->(∃u,la s x u)->aQ g x=some X->kQ g la s x (lookW g w j)->
  ∃s',go s X=some s'/\(i,s)∈bq G (j,s')
 | .mk _ t _,_,i,_,.leaf h,hj,s,x,hk,hx,_,ha,_=>by
  obtain⟨s',h1,_,_⟩:=ok.step hx ha;exact⟨s',h1,hS i t zo h s s' hk h1⟩
 | .mk _ _ ks,_,i,j,.node (k:=k) (r:=r) h h2,hj,s,x,hkey,hx,⟨u,hu⟩,ha,hal=>by
  obtain⟨s',h3,_,_⟩:=ok.step hx ha;have hk0:=ok.x7 hx ha h;have hk1:=ok.fP (t:=lookW g w j) hx hu ha h hal;obtain⟨s2,e1,e2,e3,e4⟩:=aI.graph ok hR hS h2 hj (s:=s) (k:=k) (d:=0) (r:=r) hkey h hk0 hk1 (R6 _) rfl;rw[aI.len h2] at e4;exact⟨s',h3,hR j hj s2 k r e1 h e2 e3 _ e4 s' h3⟩
theorem aI.graph(ok:qx g it la go)(hR:∀j,j<=p->pS g it la go G j (lookW g w j))(hS:∀j t,j<p->w[j]?=some t->Ae go G j t):∀{ts:List Tree} {l:List Sym} {i j:Nat},aI g w l ts i j->j<=p->∀{s k d:Nat} {r:bW},(i,s)∈aU G->g.rules[k]?=some r->it s ⟨k,d⟩->la s ⟨k,d⟩ (lookW g w j)->d<=r.right.length->r.right.drop d=l->
  ∃s',(j,s')∈aU G/\it s' ⟨k,r.right.length⟩/\la s' ⟨k,r.right.length⟩ (lookW g w j)/\Dl G ts.length (j,s') (i,s)
 | [],_,i,_,.nil,hj,s,k,d,r,hkey,hk,hit,hla,hdl,hd=>by
  obtain rfl:d=r.right.length:=by have:=List.drop_eq_nil_iff.1 hd;omega
  exact⟨s,hkey,hit,hla,rfl⟩
 | T::ts,X::l,i,j,.cons (m:=m) h1 h2,hj,s,k,d,r,hkey,hk,hit,hla,hdl,hd=>by
  have hd1:r.right[d]?=some X:=by rw[<-List.head?_drop,hd];rfl
  have hd2:r.right.drop (d+1)=l:=by rw[<-List.tail_drop,hd];rfl
  have hdlt:=(gS hd1).1;have haf:aQ g ⟨k,d⟩=some X:=by rw[bV];show (bg g k)[d]?=_;rw[cD hk];exact hd1
  have hrest:cI g ⟨k,d⟩=l:=by unfold cI;show (bg g k).drop (d+1)=_;rw[cD hk];exact hd2
  obtain⟨b1,b2⟩:=aI.begin h2;have hle:=(aI.le h2).1;have hal:kQ g la s ⟨k,d⟩ (lookW g w m):=by
   unfold kQ;rw[hrest];by_cases hm:m<j
   ·obtain⟨c,hc,h5⟩:=b2 hm;rw[lA hc];exact .inl h5
   ·obtain rfl:m=j:=by omega
    exact .inr ⟨b1 rfl,hla⟩
  obtain⟨s',e1,e2⟩:=bD.graph ok hR hS h1 zo hkey hit ⟨_,hla⟩ haf hal;obtain⟨s2,f1,f2,f3⟩:=ok.step hit haf;rw[e1] at f1;obtain rfl:=BY f1;obtain⟨s3,g1,g2,g3,g4⟩:=aI.graph ok hR hS h2 hj (s:=s') (k:=k) (d:=d+1) (r:=r) (jO e2) hk f2 (f3 _ hla) zo hd2;exact⟨s3,g1,g2,g3,(m,s'),g4,e2⟩
end
structure pV(g:ai)(it:Nat->Lr->Prop)(la:Nat->Lr->Nat->Prop)(go:Nat->Sym->Option Nat)(w:List Nat)(n p:Nat)(G:Gr):Prop where
 so:jE g go w p n G
 bot:(0,0)∈aU G
 red:∀j,j<p->pS g it la go G j (lookW g w j)
 sh:∀j t,j<p->w[j]?=some t->Ae go G j t
theorem pV.first(hn:0<n):pV g it la go w n 0 [((0,0),[])]:=⟨jE.first hn,RR ..,λj h=>by omega,λj t h=>by omega⟩
theorem pV.add(h:pV g it la go w n p G){y:Nd}(hy:y∈aU G){X:Sym}{s':Nat}(hgo:go y.2 X=some s')(hs:s'<n){T:Tree}(hT:bD g w X T y.1 p):pV g it la go w n p (eY G (p,s') y):=
 ⟨h.so.add hy hgo hs hT (AS _),fq.2 (.inl h.bot),λj hj=>(h.red j hj).add h.so hj,λj t hj ht=>(h.sh j t hj ht).add hj⟩
end
section
variable {g:ai}{it:Nat->Lr->Prop}{la:Nat->Lr->Nat->Prop}{go:Nat->Sym->Option Nat}{w:List Nat}{p n:Nat}{G G0:Gr}{again:Bool}
structure JS(g:ai)(it:Nat->Lr->Prop)(la:Nat->Lr->Nat->Prop)(go:Nat->Sym->Option Nat)(w:List Nat)(n p:Nat)(G0 G:Gr)(again:Bool):Prop where
 fin:pV g it la go w n p G
 same:again=false->G=G0
 more:again=true->qZ G0<qZ G
 keys:∀x∈aU G0,x∈aU G
 low:∀q s,q<p->((q,s)∈aU G↔(q,s)∈aU G0)
theorem JS.begin(h:pV g it la go w n p G):JS g it la go w n p G G false:=⟨h,λ_=>rfl,λh=>(by cases h),λ_ h=>h,λ_ _ _=>Iff.rfl⟩
theorem JS.le(h:JS g it la go w n p G0 G again):qZ G0<=qZ G:=by
 cases again with
 | false=>rw[h.same rfl];exact AS _
 | true=>exact SF (h.more rfl)
theorem JS.add(h:JS g it la go w n p G0 G again){y:Nd}(hy:y∈aU G){X:Sym}{s':Nat}(hgo:go y.2 X=some s')(hs:s'<n){T:Tree}(hT:bD g w X T y.1 p) :
  JS g it la go w n p G0 (eY G (p,s') y) (!decide (y∈bq G (p,s'))||again) where
 fin:=h.fin.add hy hgo hs hT
 same:=λe=>by
  rw[TU] at e;have hb:y∈bq G (p,s'):=by simpa using e.1
  rw[zR hb];exact h.same e.2
 more:=λe=>by
  by_cases hb:y∈bq G (p,s')
  ·rw[zR hb];refine h.more ?_;simpa [hb] using e
  ·have:=h.le;rw[E7 hb];omega
 keys:=λx hx=>fq.2 (.inl (h.keys x hx))
 low:=λq s hq=>by
  rw[fq,<-h.low q s hq];exact⟨λe=>e.elim id λe=>(by cases e;omega),.inl⟩
structure Kq(g:ai)(it:Nat->Lr->Prop)(la:Nat->Lr->Nat->Prop)(go:Nat->Sym->Option Nat)(w:List Nat)(n p:Nat)(G0 G:Gr):Prop where
 so:jE g go w (p+1) n G
 bot:(0,0)∈aU G
 red:∀j,j<p+1->pS g it la go G j (lookW g w j)
 sh:∀j t,j<p->w[j]?=some t->Ae go G j t
 low:∀q s,q<p+1->((q,s)∈aU G↔(q,s)∈aU G0)
theorem Kq.begin(h:pV g it la go w n p G)(hr:pS g it la go G p (lookW g w p)):Kq g it la go w n p G G:=
 ⟨h.so.up (Nat.le_succ p),h.bot,λj hj=>by
  rcases R2 j p with h1 | h1
  ·exact h.red j h1
  ·obtain rfl:j=p:=by omega
   exact hr,h.sh,λ_ _ _=>Iff.rfl⟩
theorem Kq.add(h:Kq g it la go w n p G0 G){s s' t:Nat}(hk:(p,s)∈aU G)(ht:w[p]?=some t)(hgo:go s ⟨true,t⟩=some s')(hs:s'<n):Kq g it la go w n p G0 (eY G (p+1,s') (p,s)) where
 so:=h.so.add hk (X:=⟨true,t⟩) (T:=.mk (-1) t []) hgo hs (.leaf ht) (AS _)
 bot:=fq.2 (.inl h.bot)
 red:=λj hj=>(h.red j hj).add h.so hj
 sh:=λj t hj ht=>(h.sh j t hj ht).add (show j<p+1 by omega)
 low:=λq s hq=>by
  rw[fq,<-h.low q s hq];exact⟨λe=>e.elim id λe=>(by cases e;omega),.inl⟩
theorem Kq.fin(h:Kq g it la go w n p G0 G)(hs:∀t,w[p]?=some t->Ae go G p t):pV g it la go w n (p+1) G:=
 ⟨h.so,h.bot,h.red,λj t hj ht=>by
  rcases R2 j p with h1 | h1
  ·exact h.sh j t h1 ht
  ·obtain rfl:j=p:=by omega
   exact hs t ht⟩
end
section
variable {g:ai}{S:List (List bQ)}{rows:List (List Int)}{w:List Nat}{p t:Nat}{G:Gr}
def JG(g:ai)(rows:List (List Int))(G:Gr)(p s:Nat)(a:Nat×Nat):Prop:=
 a.1=2->∀r,g.rules[a.2]?=some r->∀x,Dl G r.right.length (p,s) x->∀s',jP g rows x.2 ⟨false,r.left⟩=some s'->x∈bq G (p,s')
def Kc(G:Gr)(p s:Nat)(a:Nat×Nat):Prop:=a.1=1->(p,s)∈bq G (p+1,a.2)
theorem KQ(hA:jy g (S.map aP) rows){s k:Nat}(hs:s<S.length)(ht:t<=g.ae)(h:(2,k)∈fI g (S.getD s []) (rows.getD s []) t):∃r,g.rules[k]?=some r/\nj (S.map aP) s ⟨k,r.right.length⟩/\rB S s ⟨k,r.right.length⟩ t:=by
 have:=((sJ hA hs ht _).1 h).2;cases this with
 | red h1 h2 h3=>exact⟨_,h1,h2,h3⟩
theorem Np(hA:jy g (S.map aP) rows){s k:Nat}(hs:s<S.length)(ht:t<=g.ae)(h:(1,k)∈fI g (S.getD s []) (rows.getD s []) t):t<g.ae/\jP g rows s ⟨true,t⟩=some k:=by
 have:=((sJ hA hs ht _).1 h).2;cases this with
 | shift h1 h2=>exact⟨h1,h2⟩
theorem JJ(hA:jy g (S.map aP) rows)(ht:t<=g.ae)(hk:∀x∈aU G,x.2<S.length)(h:∀s,(p,s)∈aU G->∀a∈fI g (S.getD s []) (rows.getD s []) t,JG g rows G p s a) :
  pS g (nj (S.map aP)) (rB S) (jP g rows) G p t:=by
 intro s k r h1 h2 h3 h4 x h5 s' h6;exact h s h1 (2,k) ((sJ hA (hk _ h1) ht _).2 ⟨⟨Act.noConfusion,λe=>absurd (show (2:Nat)=3 from e) (by decide)⟩,.red h2 h3 h4⟩) rfl r h2 x h5 s' h6
theorem KT(hA:jy g (S.map aP) rows)(ht:t<g.ae)(hk:∀x∈aU G,x.2<S.length)(h:∀s,(p,s)∈aU G->∀a∈fI g (S.getD s []) (rows.getD s []) t,Kc G p s a):Ae (jP g rows) G p t:=by
 intro s s' h1 h2;exact h s h1 (1,s') ((sJ hA (hk _ h1) (SF ht) _).2 ⟨⟨Act.noConfusion,λe=>absurd (show (1:Nat)=3 from e) (by decide)⟩,.shift ht h2⟩) rfl
end
theorem Mk{g:ai}(hg:Valid g){S:List (List bQ)}{rows:List (List Int)}(hA:jy g (S.map aP) rows){s s':Nat}{y:Sym}(h:jP g rows s y=some s'):s'<S.length:=by
 obtain⟨_,st',_,h2,_⟩:=hA.goes hg h;have:=(gS h2).1
 rwa [RL] at this
theorem OI{g:ai}{rows:List (List Int)}{s s' n:Nat}(h:jP g rows s ⟨false,n⟩=some s'):∃row,(rows.map (·.drop g.ae))[s]?=some row/\row[n]?=some (s':Int):=by
 unfold jP at h;split at h
 ·split at h
  ·rename_i row hr;refine⟨row.drop g.ae,by rw[RM,hr];rfl,?_⟩;rw[Se];have e:EU g ⟨false,n⟩=g.ae+n:=Ud n g.ae;rw[e] at h;split at h
   ·rename_i j hj;rw[hj];split at h
    ·cases h;congr 1;omega
    ·cases h
   ·cases h
  ·cases h
 ·cases h
theorem Fy{g:ai}{S:List (List bQ)}{rows:List (List Int)}{s t:Nat}(hs:s<S.length)(ht:t<=g.ae):∃l:List (List (Nat×Nat)),(pz g S rows)[s]?=some l/\l[t]?=some (fI g (S.getD s []) (rows.getD s []) t):=by
 refine⟨(List.range (g.ae+1)).map λt=>fI g (S.getD s []) (rows.getD s []) t,?_,?_⟩
 ·unfold pz;rw[RM,Tg hs];rfl
 ·rw[RM,Tg zo];rfl
theorem Kt{g:ai}{w:List Nat}(hw:∀t∈w,t<g.ae)(p:Nat):lookW g w p<=g.ae:=by
 unfold lookW;cases h:w[p]? with
 | none=>exact AS _
 | some t=>exact SF (hw t (gM h))
structure QM where
 s:iG
 a:Option Addr
 m:Nat
 c:Nat
 B:List (Nat×aE)
 L:List (List Nat)
structure Pk where
 s:iG
 again:Bool
theorem ML{g:ai}{go:Nat->Sym->Option Nat}{w:List Nat}{p n:Nat}{s:iG}(h:jE g go w p n s.abs)(hp:p<=20)(hn:n<=400):s.es.length<=1000000:=by
 have h1:=iN (m:=Gp p n) h.wf.nd λx hx=>vP.2 ⟨(h.key x hx).1,(h.key x hx).2.1⟩;rw[vW] at h1;unfold aU iG.abs at h1;rw[RL,RL] at h1;have:(p+1)*n<=21*400:=Sl zo hn;omega
theorem Jp(g:ai)(st:List bQ)(row:List Int)(t:Nat):(fI g st row t).length<=st.length+1:=by
 unfold fI;rw[RP,Ud st.length 1];refine RU ?_ (List.length_filterMap_le ..);split
 ·split
  ·split<;>simp
  ·simp
 ·simp
theorem yG{g:ai}(hg:Valid g){S:List (List bQ)}{rows:List (List Int)}(hst:cZ g 1=some (S,rows)){s t:Nat}(hs:s<S.length):(fI g (S.getD s []) (rows.getD s []) t).length<=1001:=by
 have h1:=Jp g (S.getD s []) (rows.getD s []) t;have h2:=(vN hg hst (S.getD s []) (by rw[getD_some (gE hs)];exact TK hs)).1;omega
theorem Jd(ok:CC.Ok Tryz.prog)(fok:bS CC Tryz.prog)(F:ar)(g:ai)(hg:Valid g)(ht5:g.ae<=5){a:Option Addr}{m c:Nat}(hr:bj cC F a m c g.rules){b:Option Addr}{n d:Nat}{w:List Nat}(hw:bj dD F b n d w)(hw1:w.length<=12)(hw2:∀t∈w,t<g.ae)
  {S:List (List bQ)} {rows:List (List Int)} (hst:cZ g 1=some (S,rows)) :
  cJ CC Tryz.prog 105 [.agg ⟨ak g a m c⟩,.slice b n d] F [] λF' v o=>o=[]/\∃G L a1 n1 c1,v=.tuple ⟨[.slice a1 n1 c1,.int .i64 0]⟩/\bj (cg dD) F' a1 n1 c1 L/\L.length=w.length+1/\
   pV g (nj (S.map aP)) (rB S) (jP g rows) w S.length (w.length+1) G/\∀q l,L[q]?=some l->nR G q l:=by
 have hgr:=hg.range.rules;have hgt:=hg.range.ae;have hgn:=hg.range.au;have hrl:=hr.len;have hwl:=hw.len;obtain⟨hA,hLR⟩:=pY hg hst;have hfew:=yB hst;have hS0:0<S.length:=by
  obtain⟨st,h1,_⟩:=hLR.start;have:=(gS h1).1;rw[RL] at this;omega
 have hrs:rows.length=S.length:=by have:=hA.len;rwa [RL] at this
 refine cJ.fn (n:=161) ok Tryz.func105 rfl rfl λown=>?_;refine bl.dp ok fok ?_;refine WT.cy Z Z Z Z Z Z (λi2 hi2=>?_);refine WT.ay 0 Z Z (λF0 hF0 hB0=>?_);have hi2:=hB0 i2 _ me;have hr:=hr.mono hF0;have hw:=hw.mono hF0;unfold ak at hi2 ⊢;refine aj ?_;refine bl.dp ok fok ?_;refine aj ?_;have hall:=GZ F0 g hg ht5 hr;unfold ak at hall;refine WT.cO Tryz.func45 Z Z Z Z Z Z hall (λF1 v hF1 hv=>?_);rcases hv with ⟨hno,_⟩ | ⟨S',rows',a1,n1,c1,a2,n2,c2,hst',rfl,hAct,hTo⟩
 ·rw[hst] at hno;cases hno
 rw[hst] at hst';cases hst';have hr:=hr.mono hF1;have hw:=hw.mono hF1;have hi2:=hF1 _ _ hi2;have hActl:=hAct.len;have hTol:=hTo.len;refine aj ?_;refine bl.seq (bl.dp ok fok ?_);refine aj ?_;refine bl.cond rfl (λh=>(by cases h)) (λ_=>?_);refine bl.skip ok fok ?_;show bl CC Tryz.prog 161 _ _ F1 _ _;refine bl.draw ok fok (ps:=[(0,1),(0,3),(0,4)]) rfl rfl ?_;refine aj ?_;refine WT.makeMap Z Z Z Z (λi34 hi34=>?_);refine aj ?_;refine WT.makeMap Z Z Z Z (λi36 hi36=>?_);refine WT.Ad kx (key:=((0,0):Nd)) (m:=[]) hT 1 0 Z Z Z Z Z Z Z Z Z Z Z Z ?_;refine aj ?_
 refine WT.cy Z Z Z Z Z Z (λi39 hi39=>?_);refine WT.ay 0 Z Z (λF2 hF2 hB2=>?_);have hi:=hB2 i39 _ me;refine aj ?_;refine⟨oY,?_⟩;have hr:=hr.mono hF2;have hw:=hw.mono hF2;have hi2:=hF2 _ _ hi2;have hAct:=hAct.mono hF2;have hTo:=hTo.mono hF2;refine bl.dp ok fok ?_;refine aj ?_;refine bl.seq (bl.dp ok fok ?_);refine aj ?_;refine bl.weaken (k2:=[(1,.slice b n d),(2,.pointer (some ⟨i2,0,none⟩)),(6,.slice a1 n1 c1),(7,.slice a2 n2 c2),(9,.pointer (some ⟨i39,0,none⟩)),(10,.slice none 0 0),(42,.int .i64 ((n+1:Nat):Int)),(43,.int .i64 0)]) sM ?_
 refine bl.range ok fok (S:=QM) (λu=>[(10,.slice u.a u.m u.c)]) (λu=>u.s.B::u.B::own) (λj u G=>pV g (nj (S.map aP)) (rB S) (jP g rows) w S.length j u.s.abs/\u.s.oi=i34/\dR (cg dD) G u.a u.m u.c u.B u.L/\u.L.length=j/\∀q l,u.L[q]?=some l->nR u.s.abs q l) (n+1) ⟨⟨i34,[((0,0),i36,[])]⟩,none,0,0,[],[]⟩
  Z Z Z Z Z Z Z Z Z zo rfl rfl (λ_=>rfl) (λ_=>rfl) sM (ah.flat (List.Perm.swap _ _ _)) ⟨pV.first hS0,rfl,dR.gz _ _,rfl,λq l h=>(by simp at h)⟩ ?_ ?_
 ·intro j u F3 hF3 hj hI;obtain⟨hfin,hoi,hbld,hLl,hLt⟩:=hI;have hi:=hF3 _ _ hi;have hi2:=hF3 _ _ hi2;have hw:=hw.mono hF3;have hr:=hr.mono hF3;have hAct:=hAct.mono hF3;have hTo:=hTo.mono hF3;refine bl.dp ok fok ?_;refine aj ?_;refine bl.dp ok fok ?_;refine aj ?_;refine bl.seq (bl.dp ok fok ?_);refine aj ?_;refine bl.Fs ok fok (S:=Unit) (λ_=>[(12,.int .i64 (lookW g w j:Nat))]) (λ_=>u.s.B::u.B::own) (λ_ _=>True) ?_ (λ_ F4 hF4 _=>?_)
  ·refine AW.cond Z (λh=>?_) (λh=>?_)
   ·have h:j<n:=by simpa using h
    refine aj ?_;refine WT.bG hT hw Z Z Z Z Z Z Z Z Z zo (λy hy b1 off1 ro1 cs1 lx1 hb1 hp1 hrel1=>?_);obtain rfl:lx1=_:=hrel1;obtain rfl:lookW g w j=y:=lA hy;refine aj ?_;exact⟨(),sM,ah.refl _,trivial⟩
   ·have h:j=n:=by simp at h;omega
    have e:lookW g w j=g.ae:=by unfold lookW;rw[R3 zo];rfl
    refine aj ?_;exact⟨(),by rw[e];exact sM,ah.refl _,trivial⟩
  have hi:=hF4 _ _ hi;have hi2:=hF4 _ _ hi2;have hw:=hw.mono hF4;have hr:=hr.mono hF4;have hAct:=hAct.mono hF4;have hTo:=hTo.mono hF4;have hbld:=hbld.mono hF4;have htl:=Kt hw2 j (g:=g);generalize ht:lookW g w j=t at htl;refine bl.seq (bl.dp ok fok ?_);refine aj ?_;refine bl.weaken (k2:=[(1,.slice b n d),(2,.pointer (some ⟨i2,0,none⟩)),(6,.slice a1 n1 c1),(7,.slice a2 n2 c2),(9,.pointer (some ⟨i39,0,none⟩)),(10,.slice u.a u.m u.c),(11,.int .i64 j),(12,.int .i64 t),(13,.bool true),(42,.int .i64 ((n+1:Nat):Int)),(43,.int .i64 j)]) sM ?_;refine bl.block ?_
  refine bl.cm (S:=Pk) (λv=>[(13,.bool v.again)]) (λv=>v.s.B::u.B::own) (λv _=>pV g (nj (S.map aP)) (rB S) (jP g rows) w S.length j v.s.abs/\v.s.oi=i34/\(v.again=false->pS g (nj (S.map aP)) (rB S) (jP g rows) v.s.abs j t)/\∀q s,q<j->((q,s)∈aU v.s.abs↔(q,s)∈aU u.s.abs)) (λv=>if v.again=true then ((j+1)*S.length)*((j+1)*S.length)-qZ v.s.abs+1 else 0) ⟨u.s,true⟩ sM oR ⟨hfin,hoi,λh=>(by cases h),λ_ _ _=>Iff.rfl⟩ ?_;intro v F5 hF5 hv;obtain⟨hfv,hov,hred,hlow⟩:=hv;have hi:=hF5 _ _ hi;have hi2:=hF5 _ _ hi2;have hw:=hw.mono hF5;have hr:=hr.mono hF5
  have hAct:=hAct.mono hF5;have hTo:=hTo.mono hF5;have hbld:=hbld.mono hF5;have hiv:F5 i39=some (.cells false [.int .i64 g.ae,.int .i64 g.au,.int .i64 g.start,.slice a m c,.map (some v.s.oi)]):=by rw[hov];exact hi
  have hes:=ML hfv.so zo hfew;refine bl.seq (bl.dp ok fok ?_);refine aj ?_;refine bl.cond (b:=v.again) rfl (λh=>?_) (λh=>?_)
  ·refine bl.skip ok fok ?_;show bl CC Tryz.prog 161 _ _ F5 _ _;refine bl.block ?_;refine bl.dp ok fok ?_;refine aj ?_;refine bl.seq (bl.region (er.take ok fok 2 ?_));refine aj ?_;refine er.call ok rfl (λ_=>rfl) (tW ok fok F5 v.s hiv hfv.so.wf.nd hes j) (NO _) (λF6 x o hF6 hx=>?_);obtain⟨L,ta,tn,tc,rfl,hL,rfl,hLa⟩:=hx;refine er.all ok fok ?_;refine aj ?_;have hi:=hF6 _ _ hi;have hi2:=hF6 _ _ hi2;have hr:=hr.mono hF6;have hAct:=hAct.mono hF6;have hTo:=hTo.mono hF6;have hbld:=hbld.mono hF6;have hLl:=hLa.len;show bl CC Tryz.prog 161 _ _ F6 _ _
   refine bl.weaken (k2:=[(2,.pointer (some ⟨i2,0,none⟩)),(6,.slice a1 n1 c1),(7,.slice a2 n2 c2),(9,.pointer (some ⟨i39,0,none⟩)),(11,.int .i64 j),(12,.int .i64 t),(13,.bool false),(59,.slice ta tn tc),(60,.int .i64 tn),(61,.int .i64 0),(1,.slice b n d),(10,.slice u.a u.m u.c),(42,.int .i64 ((n+1:Nat):Int)),(43,.int .i64 j)]) sM ?_
   refine bl.range ok fok (S:=Pk) (λx=>[(13,.bool x.again)]) (λx=>x.s.B::u.B::own) (λi x _=>JS g (nj (S.map aP)) (rB S) (jP g rows) w S.length j v.s.abs x.s.abs x.again/\x.s.oi=i34/\(x.again=false->∀i',i'<i->∀st,L[i']?=some st->∀z∈fI g (S.getD st []) (rows.getD st []) t,JG g rows v.s.abs j st z)) tn ⟨v.s,false⟩
    Z Z Z Z Z Z Z Z Z (by have:=hL.qL (hfv.so.wf.nd);have:v.s.es.length=(aU v.s.abs).length:=by { unfold aU iG.abs;simp };omega) rfl rfl (λ_=>rfl) (λ_=>rfl) sM oR ⟨JS.begin hfv,hov,λ_ i' h=>by omega⟩ ?_ ?_
   ·intro i x F7 hF7 hi' hx;obtain⟨hrnd,hox,hdone⟩:=hx;have hi:=hF7 _ _ hi;have hi2:=hF7 _ _ hi2;have hr:=hr.mono hF7;have hAct:=hAct.mono hF7;have hTo:=hTo.mono hF7;have hLa:=hLa.mono hF7;refine bl.dp ok fok ?_;refine WT.bG hT hLa Z Z Z Z Z Z Z Z Z zo (λst hstL b1 off1 ro1 cs1 lx1 hb1 hp1 hrel1=>?_);obtain rfl:lx1=_:=hrel1;have hstk:(j,st)∈aU v.s.abs:=(hL.mem st).1 (gM hstL);have hstl:st<S.length:=(hfv.so.key _ hstk).2.1;obtain⟨al,hal,hat⟩:=Fy (S:=S) (rows:=rows) (g:=g) hstl htl;have hAl:(pz g S rows).length=S.length:=by unfold pz;simp
    refine aj ?_;refine bl.dp ok fok ?_;refine aj ?_;refine WT.bG hT hAct Z Z Z Z Z Z Z Z Z zo (λal' hal' b2 off2 ro2 cs2 lx2 hb2 hp2 hrel2=>?_);obtain rfl:al=al':=by rw[hal] at hal';exact BY hal'
    obtain⟨aa,an,ac,rfl,haa⟩:=hrel2;have hall2:=(gS hat).1;refine aj ?_;refine WT.bG hT haa Z Z Z Z Z Z Z Z Z hall2 (λac' hac' b3 off3 ro3 cs3 lx3 hb3 hp3 hrel3=>?_);have hax1:=yG hg hst hstl (t:=t);generalize hax:fI g (S.getD st []) (rows.getD st []) t=ax at hat hax1;obtain rfl:ax=ac':=by rw[hat] at hac';exact BY hac'
    obtain⟨ba,bn,bc,rfl,hba⟩:=hrel3;have hbl:=hba.len;refine aj ?_;refine bl.weaken (k2:=[(15,.int .i64 st),(71,.slice ba bn bc),(72,.int .i64 bn),(73,.int .i64 0),(62,.bool true),(13,.bool x.again),(2,.pointer (some ⟨i2,0,none⟩)),(6,.slice a1 n1 c1),(7,.slice a2 n2 c2),(9,.pointer (some ⟨i39,0,none⟩)),(11,.int .i64 j),(12,.int .i64 t),(59,.slice ta tn tc),(60,.int .i64 tn),(61,.int .i64 i),(1,.slice b n d),(10,.slice u.a u.m u.c),(42,.int .i64 ((n+1:Nat):Int)),(43,.int .i64 j)]) sM ?_
    refine bl.range ok fok (S:=Pk) (λy=>[(13,.bool y.again)]) (λy=>y.s.B::u.B::own) (λi y _=>JS g (nj (S.map aP)) (rB S) (jP g rows) w S.length j v.s.abs y.s.abs y.again/\y.s.oi=i34/\(y.again=false->x.again=false)/\(y.again=false->∀i',i'<i->∀z,ax[i']?=some z->JG g rows v.s.abs j st z)) bn x
     Z Z Z Z Z Z Z Z Z zo rfl rfl (λ_=>rfl) (λ_=>rfl) sM oR ⟨hrnd,hox,id,λ_ i' h=>by omega⟩ ?_ ?_
    ·intro i3 y F8 hF8 hi3 hy;obtain⟨hyr,hoy,hyx,hyd⟩:=hy;have hi:=hF8 _ _ hi;have hi2:=hF8 _ _ hi2;have hr:=hr.mono hF8;have hTo:=hTo.mono hF8;have hba:=hba.mono hF8;refine bl.dp ok fok ?_;refine WT.bG hT hba Z Z Z Z Z Z Z Z Z zo (λz hz b4 off4 ro4 cs4 lx4 hb4 hp4 hrel4=>?_);obtain rfl:lx4=_:=hrel4;refine aj ?_;refine WT.aK hT Z Z Z Z Z Z (λi17 hi17=>?_);refine aj ?_;refine bl.seq (bl.dp ok fok ?_);refine aj ?_;refine bl.cond rfl (λh=>?_) (λh=>?_)
     ·refine bl.exit ok fok ?_;have hz2:z.1≠2:=by simp at h;omega
      refine⟨y,sM,dH,hyr,hoy,hyx,λe i' hi' z' hz' e2=>?_⟩;rcases R2 i' i3 with h1 | h1
      ·exact hyd e i' h1 z' hz' e2
      ·obtain rfl:i'=i3:=by omega
       rw[hz] at hz';obtain rfl:=BY hz';exact absurd e2 hz2
     refine bl.skip ok fok ?_;have hz2:z.1=2:=by simp at h;omega
     obtain⟨zk,zn⟩:=z;obtain rfl:zk=2:=hz2;obtain⟨r,hrr,hit,hla⟩:=KQ hA hstl htl (by rw[hax];exact gM hz);have hrrl:=(gS hrr).1;show bl CC Tryz.prog 161 _ _ F8 _ _;refine bl.dp ok fok ?_;refine aj ?_;refine WT.bG hT hr Z Z Z Z Z Z Z Z Z hrrl (λr' hr' b5 off5 ro5 cs5 lx5 hb5 hp5 hrel5=>?_);obtain rfl:r=r':=by rw[hrr] at hr';exact BY hr'
     obtain⟨ra,rn,rc,rfl,hra⟩:=hrel5;have hrnl:=hra.len;have hr4:=(hg.right r (gM hrr)).2.1;refine aj ?_;refine WT.aK hT Z Z Z Z Z Z (λi18 hi18=>?_);refine aj ?_;refine bl.rangeMap ok fok [_,_,_,_,_,_,_,_] Z Z Z Z Z Z Z Z Z Z Z Z Z Z Z ?_;refine er.take ok fok 7 ?_;refine aj ?_;have hiy:F8 i39=some (.cells false [.int .i64 g.ae,.int .i64 g.au,.int .i64 g.start,.slice a m c,.map (some y.s.oi)]):=by rw[hoy];exact hi
     have hyk:(j,st)∈aU y.s.abs:=hyr.keys _ hstk;refine er.call ok rfl (λ_=>rfl) (Hd ok fok F8 y.s hiy (λx z hz=>(hyr.fin.so.Ab x z hz).1) (j,st) hyk rn zo) (cd (p:=2) rfl) (λF9 xv o hF9 hv9=>?_);obtain⟨id,l,rfl,rfl,hlnd,hlm⟩:=hv9;refine er.nil ?_;have hi:=hF9 _ _ hi;have hTo:=hTo.mono hF9
     refine⟨id,aG kx (mw l),_,CM.of (S:=Pk) (λq=>[(13,.bool q.again)]) (λq=>[(id,nm l)]::q.s.B::[(i18,.cells false [.int .i64 r.left,.slice ra rn rc])]::[(i17,.cells false [.int .i64 2,.int .i64 zn])]::u.B::own) (λseen q G=>JS g (nj (S.map aP)) (rB S) (jP g rows) w S.length j v.s.abs q.s.abs q.again/\q.s.oi=i34/\(q.again=false->y.again=false)/\(∀x∈aU y.s.abs,x∈aU q.s.abs)/\(q.again=false->∀i∈seen,∀x,l[i]?=some x->∀s',jP g rows x.2 ⟨false,r.left⟩=some s'->x∈bq v.s.abs (j,s'))) y rfl ⟨_,_,dZ hT rfl rfl⟩ (λp hp=>?_) rfl rfl (λ_=>⟨rfl,rfl,rfl,rfl⟩) sM oR ⟨hyr,hoy,λh=>h,λ_ h=>h,λ_ i h=>(by cases h)⟩ (λseen q F hI h hs=>St.has (p:=0) hs rfl me) (λii seen q F10 hF10 hq ix p hp hns=>?_) (λseen q F10 hF10 hq hall=>?_)⟩
     ·obtain⟨e,he,rfl⟩:=RI.1 hp;rfl
     ·obtain⟨hqr,hoq,hqy,hqk,hqd⟩:=hq;have hi:=hF10 _ _ hi;have hTo:=hTo.mono hF10;obtain⟨x',hx',rfl⟩:∃x',l[ix]?=some x'/\p=(kx.key x',.bool true):=by
       unfold aG mw at hp;rw[RM,RM] at hp;cases hm:l[ix]? with
       | none=>rw[hm] at hp;cases hp
       | some x0=>rw[hm] at hp;cases hp;exact⟨x0,rfl,rfl⟩
      have hdn:=(hlm x').1 (gM hx');rw[hrnl] at hdn;obtain⟨s',T,hgo,hTr⟩:=hyr.fin.so.red hLR hrr hit hdn;obtain⟨row,hrow,hrs'⟩:=OI hgo;have hxk:=hqk _ (hyr.fin.so.NY hyk hdn);have hs'l:=Mk hg hA hgo;have hiq:F10 i39=some (.cells false [.int .i64 g.ae,.int .i64 g.au,.int .i64 g.start,.slice a m c,.map (some q.s.oi)]):=by rw[hoq];exact hi
      have hadd:=hqr.add hxk hgo hs'l hTr;refine er.weaken (k2:=(97,.tuple ⟨[.agg ⟨[.int .i64 x'.1,.int .i64 x'.2]⟩,.bool true]⟩)::_) (λ_ _ h=>h) (er.rV ok fok ?_);refine aj ?_;refine WT.aK hT Z Z Z Z Z Z (λi19 hi19=>?_);refine aj ?_;refine bl.gC ok fok ?_;refine aj ?_;refine WT.bG hT hTo Z Z Z Z Z Z Z Z Z (gS hrow).1 (λrow' hrow' b6 off6 ro6 cs6 lx6 hb6 hp6 hrel6=>?_);obtain rfl:row=row':=by rw[hrow] at hrow';exact BY hrow'
      obtain⟨wa,wn,wc,rfl,hrowA⟩:=hrel6;have hrowl:=hrowA.len;have hrl2:=(gS hrs').1;refine aj ?_;refine WT.bG hT hrowA Z Z Z Z Z Z Z Z Z hrl2 (λs2 hs2 b7 off7 ro7 cs7 lx7 hb7 hp7 hrel7=>?_);obtain rfl:(s':Int)=s2:=by rw[hrs'] at hs2;exact BY hs2
      obtain rfl:lx7=_:=hrel7;refine aj ?_;refine WT.cW 2 Tryz.func164 Z Z Z Z Z Z Z (λ_=>rfl) (CF F10 q.s hiq (j,s') x') (λF11 bv B' hF11 hv11=>?_);obtain⟨s3,rfl,hs3o,hs3a,rfl⟩:=hv11;have hs3:s3.oi=i34:=hs3o.trans hoq;rw[<-hs3a] at hadd;refine aj ?_;refine WT.split 113 Z (λhb=>?_) (λhb=>?_)
      ·rw[hb] at hadd;refine aj ?_;exact⟨rfl,⟨s3,true⟩,sM,ah.skip _ oR,hadd,hs3,λe=>(by cases e),λx0 h0=>by rw[hs3a];exact fq.2 (.inl (hqk x0 h0)),λe=>(by cases e)⟩
      ·rw[hb] at hadd;have hold:x'∈bq q.s.abs (j,s'):=by simpa using hb
       refine aj ?_;refine⟨rfl,⟨s3,q.again⟩,sM,ah.skip _ oR,hadd,hs3,hqy,λx0 h0=>by rw[hs3a];exact fq.2 (.inl (hqk x0 h0)),λe i0 hi0 x0 hx0 s0 hs0=>?_⟩;rcases R0.1 hi0 with rfl | hi0
       ·rw[hx'] at hx0;obtain rfl:=BY hx0;rw[hgo] at hs0;obtain rfl:=BY hs0;rw[<-hqr.same e];exact hold
       ·exact hqd e i0 hi0 x0 hx0 s0 hs0
     ·obtain⟨hqr,hoq,hqy,hqk,hqd⟩:=hq;refine⟨q,sM,ah.skip _ (ah.cons _ (ah.skip _ (ah.skip _ oR))),hqr,hoq,λe=>hyx (hqy e),λe i' hi' z' hz' e2 r' hr' x' hx' s' hs'=>?_⟩;rcases R2 i' i3 with h1 | h1
      ·exact hyd (hqy e) i' h1 z' hz' e2 r' hr' x' hx' s' hs'
      ·obtain rfl:i'=i3:=by omega
       rw[hz] at hz';obtain rfl:=BY hz';rw[hrr] at hr';obtain rfl:=BY hr';rw[<-hyr.same (hqy e),<-hrnl] at hx';obtain⟨ix,hix,rfl⟩:=SJ ((hlm x').2 hx');exact hqd e ix (hall ix (by unfold aG mw;simpa using hix)) _ (gE hix) s' hs'
    ·intro y F8 hF8 hy;obtain⟨hyr,hoy,hyx,hyd⟩:=hy;refine⟨y,sM,ah.refl _,hyr,hoy,λe i' hi' st' hst' z hz=>?_⟩;rcases R2 i' i with h1 | h1
     ·exact hdone (hyx e) i' h1 st' hst' z hz
     ·obtain rfl:i'=i:=by omega
      rw[hstL] at hst';obtain rfl:=BY hst';rw[hax] at hz;obtain⟨iz,hiz,rfl⟩:=SJ hz;exact hyd e iz zo _ (gE hiz)
   ·intro x F7 hF7 hx;obtain⟨hrnd,hox,hdone⟩:=hx;refine⟨x,?_,sM,ah.refl _,hrnd.fin,hox,λe=>?_,λq s hq=>(hrnd.low q s hq).trans (hlow q s hq)⟩
    ·have h1:=hrnd.fin.so.sN;rw[h,By rfl];by_cases e:x.again=true
     ·have:=hrnd.more e;rw[By e];omega
     ·rw[AT e];omega
    ·have e1:=hrnd.same e;rw[e1];refine JJ hA htl (λx hx=>(hfv.so.key x hx).2.1) λs hs z hz=>?_;obtain⟨is,his,rfl⟩:=SJ ((hL.mem s).2 hs);exact hdone e is zo _ (gE his) z hz
  ·refine bl.exit ok fok ?_;have hredv:=hred h;show bl CC Tryz.prog 161 _ _ F5 _ _;refine bl.seq (bl.region (er.take ok fok 3 ?_));refine aj ?_;refine er.call ok rfl (λ_=>rfl) (tW ok fok F5 v.s hiv hfv.so.wf.nd hes j) (NO _) (λF6 x o hF6 hx=>?_);obtain⟨L,ta,tn,tc,rfl,hL,rfl,hLa⟩:=hx;have hbl:=hbld.len;refine er.all ok fok ?_;refine WT.be hT Z Z Z Z Z Z Z Z Z Z Z Z Z Z (λi122 hi122=>?_)
   refine WT.bX (R:=cg dD) (ys:=[L]) hT 2 (hbld.mono hF6) Z (λ_=>rfl) Z Z Z Z Z Z Z Z Z Z Z (λh0 s0=>bw hT s0 0 Z Z Z Z) (aH.single (R:=cg dD) (x:=L) ⟨_,_,_,rfl,hLa⟩) Z (by decide) kF (λa3 c3 B3 hB3=>?_);refine aj ?_;have hi:=hF6 _ _ hi;have hiv:=hF6 _ _ hiv;have hAct:=hAct.mono hF6;refine bl.le (own2:=v.s.B::B3::own) (ah.skip _ oR) ?_
   refine bl.weaken (k2:=[(10,.slice a3 (u.m+1) c3),(1,.slice b n d),(2,.pointer (some ⟨i2,0,none⟩)),(6,.slice a1 n1 c1),(7,.slice a2 n2 c2),(9,.pointer (some ⟨i39,0,none⟩)),(11,.int .i64 j),(12,.int .i64 t),(42,.int .i64 ((n+1:Nat):Int)),(43,.int .i64 j)]) sM ?_;refine bl.seq (bl.region (er.take ok fok 2 ?_));refine aj ?_;refine er.call ok rfl (λ_=>rfl) (tW ok fok F6 v.s hiv hfv.so.wf.nd hes j) (NO _) (λF7 x o hF7 hx=>?_);obtain⟨L2,sa,sn,sc,rfl,hL2,rfl,hLa2⟩:=hx;have hi:=hF7 _ _ hi;have hAct:=hAct.mono hF7;have hLl2:=hLa2.len
   have hL2f:L2.length<=v.s.es.length:=by
    have h1:=hL2.qL hfv.so.wf.nd;unfold aU iG.abs at h1;simpa using h1
   refine er.all ok fok ?_;refine aj ?_;refine bl.gC ok fok ?_;refine AW.range (S:=iG) (λ_=>[]) (λx=>x.B::B3::own) (λi x _=>Kq g (nj (S.map aP)) (rB S) (jP g rows) w S.length j v.s.abs x.abs/\x.oi=i34/\∀i',i'<i->∀st,L2[i']?=some st->∀z∈fI g (S.getD st []) (rows.getD st []) t,Kc x.abs j st z) sn v.s
    Z Z Z Z Z Z Z Z Z zo rfl rfl (λ_=>rfl) (λ_=>rfl) sM oR ⟨Kq.begin hfv (by rw[ht];exact hredv),hov,λi' h=>by omega⟩ ?_ ?_
   ·intro i x F8 hF8 hi' hx;obtain⟨hsh,hox,hdone⟩:=hx;have hi:=hF8 _ _ hi;have hAct:=hAct.mono hF8;have hLa2:=hLa2.mono hF8;refine aj ?_;refine WT.bG hT hLa2 Z Z Z Z Z Z Z Z Z zo (λst hstL b1 off1 ro1 cs1 lx1 hb1 hp1 hrel1=>?_);obtain rfl:lx1=_:=hrel1;have hstk:(j,st)∈aU v.s.abs:=(hL2.mem st).1 (gM hstL);have hstl:st<S.length:=(hfv.so.key _ hstk).2.1;obtain⟨al,hal,hat⟩:=Fy (S:=S) (rows:=rows) (g:=g) hstl htl;have hAl:(pz g S rows).length=S.length:=by unfold pz;simp
    refine aj ?_;refine WT.bG hT hAct Z Z Z Z Z Z Z Z Z zo (λal' hal' b2 off2 ro2 cs2 lx2 hb2 hp2 hrel2=>?_);obtain rfl:al=al':=by rw[hal] at hal';exact BY hal'
    obtain⟨aa,an,ac,rfl,haa⟩:=hrel2;have hall2:=(gS hat).1;refine aj ?_;refine WT.bG hT haa Z Z Z Z Z Z Z Z Z hall2 (λac' hac' b3 off3 ro3 cs3 lx3 hb3 hp3 hrel3=>?_);have hax1:=yG hg hst hstl (t:=t);generalize hax:fI g (S.getD st []) (rows.getD st []) t=ax at hat hax1;obtain rfl:ax=ac':=by rw[hat] at hac';exact BY hac'
    obtain⟨ba,bn,bc,rfl,hba⟩:=hrel3;have hbl2:=hba.len;refine aj ?_;refine AW.range (S:=iG) (λ_=>[]) (λy=>y.B::B3::own) (λi y _=>Kq g (nj (S.map aP)) (rB S) (jP g rows) w S.length j v.s.abs y.abs/\y.oi=i34/\(∀p q,q∈bq x.abs p->q∈bq y.abs p)/\∀i',i'<i->∀z,ax[i']?=some z->Kc y.abs j st z) bn x
     Z Z Z Z Z Z Z Z Z zo rfl rfl (λ_=>rfl) (λ_=>rfl) sM oR ⟨hsh,hox,λ_ _ h=>h,λi' h=>by omega⟩ ?_ ?_
    ·intro i3 y F9 hF9 hi3 hy;obtain⟨hys,hoy,hym,hyd⟩:=hy;have hi:=hF9 _ _ hi;have hba:=hba.mono hF9;refine aj ?_;refine WT.bG hT hba Z Z Z Z Z Z Z Z Z zo (λz hz b4 off4 ro4 cs4 lx4 hb4 hp4 hrel4=>?_);obtain rfl:lx4=_:=hrel4;refine aj ?_;refine WT.aK hT Z Z Z Z Z Z (λi23 hi23=>?_);refine aj ?_;refine AW.cond Z (λh=>?_) (λh=>?_)
     ·have hz1:z.1=1:=by simp at h;omega
      obtain⟨zk,zn⟩:=z;obtain rfl:zk=1:=hz1;obtain⟨htt,hgo⟩:=Np hA hstl htl (by rw[hax];exact gM hz);have hwt:w[j]?=some t:=by
       unfold lookW at ht;cases hwj:w[j]? with
       | none=>rw[hwj] at ht;simp at ht;omega
       | some y=>rw[hwj] at ht;exact congrArg some ht
      have hiy:F9 i39=some (.cells false [.int .i64 g.ae,.int .i64 g.au,.int .i64 g.start,.slice a m c,.map (some y.oi)]):=by rw[hoy];exact hi
      have hadd:=hys.add ((hys.low j st (Td j)).2 hstk) hwt hgo (Mk hg hA hgo);refine aj ?_;refine WT.cW 1 Tryz.func164 Z Z Z Z Z Z Z (λ_=>rfl) (CF F9 y hiy (j+1,zn) (j,st)) (λF10 bv B' hF10 hv10=>?_);obtain⟨s3,rfl,hs3o,hs3a,rfl⟩:=hv10;rw[<-hs3a] at hadd;refine aj ?_;refine⟨s3,sM,dH,hadd,hs3o.trans hoy,λp q hq=>by rw[hs3a];exact dz.2 (.inl (hym p q hq)),λi' hi' z' hz' e=>?_⟩;rw[hs3a];rcases R2 i' i3 with h1 | h1
      ·exact dz.2 (.inl (hyd i' h1 z' hz' e))
      ·obtain rfl:i'=i3:=by omega
       rw[hz] at hz';obtain rfl:=BY hz';exact dz.2 (.inr ⟨rfl,rfl⟩)
     ·have hz1:z.1≠1:=by simp at h;omega
      refine aj ?_;refine⟨y,sM,dH,hys,hoy,hym,λi' hi' z' hz' e=>?_⟩;rcases R2 i' i3 with h1 | h1
      ·exact hyd i' h1 z' hz' e
      ·obtain rfl:i'=i3:=by omega
       rw[hz] at hz';obtain rfl:=BY hz';exact absurd e hz1
    ·intro y F9 hF9 hy;obtain⟨hys,hoy,hym,hyd⟩:=hy;refine⟨y,sM,ah.refl _,hys,hoy,λi' hi' st' hst' z hz=>?_⟩;rcases R2 i' i with h1 | h1
     ·exact λe=>hym _ _ (hdone i' h1 st' hst' z hz e)
     ·obtain rfl:i'=i:=by omega
      rw[hstL] at hst';obtain rfl:=BY hst';rw[hax] at hz;obtain⟨iz,hiz,rfl⟩:=SJ hz;exact hyd iz zo _ (gE hiz)
   ·intro x F8 hF8 hx;obtain⟨hsh,hox,hdone⟩:=hx;have hfin':=hsh.fin λt' ht'=>by
     have htt:t'=t:=by rw[<-ht];exact(lA ht').symm
     subst htt;refine KT hA (hw2 _ (gM ht')) (λx hx=>(hsh.so.key x hx).2.1) λs hs z hz=>?_;obtain⟨is,his,rfl⟩:=SJ ((hL2.mem s).2 ((hsh.low j s (Td j)).1 hs));exact hdone is zo _ (gE his) z hz
    refine⟨⟨x,a3,u.m+1,c3,B3,u.L++[L]⟩,sM,ah.refl _,hfin',hox,(hB3.mono hF7).mono hF8,by rw[RP,hLl];rfl,λq l hl=>?_⟩;rcases R2 q u.L.length with h1 | h1
    ·rw[RW h1] at hl;have:=hLt q l hl;exact⟨this.sorted,λs=>((this.mem s).trans (hlow q s zo).symm).trans (hsh.low q s zo).symm⟩
    ·have hql:=(gS hl).1;rw[RP,Tw] at hql;obtain rfl:q=u.L.length:=by omega
     rw[Sj (AS _),TW] at hl;obtain rfl:=BY hl;rw[hLl];exact⟨hL.sorted,λs=>(hL.mem s).trans (hsh.low j s (Td j)).symm⟩
 ·intro u F3 hF3 hI;obtain⟨hfin,hoi,hbld,hLl,hLt⟩:=hI;refine bl.gC ok fok ?_;refine aj ?_;refine AW.ay 1 Z Z (λF4 hF4 hB4=>?_);have hfz:=hbld.frozen hF4 hB4;rw[hwl] at hLl hfin;exact AW.ret ⟨_,[],⟨_,_,rfl,⟨_,_,rfl,rfl,rfl⟩,rfl⟩,bY,rfl,u.s.abs,u.L,_,_,_,rfl,hfz,hLl,hfin,hLt⟩
def HK (g : ai) (S : List (List bQ)) (rows : List (List Int)) (w : List Nat) (F' : ar) (v : Value) : Prop := ∃ G L a1 n1 c1, v = .tuple ⟨[.slice a1 n1 c1, .int .i64 0]⟩ /\ bj (cg dD) F' a1 n1 c1 L /\ L.length = w.length + 1 /\
      pV g (nj (S.map aP)) (rB S) (jP g rows) w S.length (w.length+1) G/\∀q l,L[q]?=some l->nR G q l
theorem pR(ok:CC.Ok Tryz.prog)(fok:bS CC Tryz.prog)(F:ar)(hL:Laid F)(g:ai)(hg:Valid g)(ht5:g.ae<=5){a:Option Addr}{m c:Nat}(hr:bj cC F a m c g.rules){b:Option Addr}{n d:Nat}{w:List Nat}(hw:bj dD F b n d w)(hw1:w.length<=12)(hw2:∀t∈w,t<g.ae)
  {S:List (List bQ)} {rows:List (List Int)} (hst:cZ g 1=some (S,rows)) :
  cJ CC Tryz.prog 50 [.agg ⟨ak g a m c⟩,.slice b n d] F [] λF' v o=>o=[]/\HK g S rows w F' v:=by
 refine cJ.fn (n:=22) ok Tryz.func50 rfl rfl λown=>?_;refine bl.dp ok fok ?_;refine WT.cy Z Z Z Z Z Z (λi2 hi2=>?_);refine WT.ay 0 Z Z (λF0 hF0 hB0=>?_);have hi2:=hB0 i2 _ me;have hr:=hr.mono hF0;have hw:=hw.mono hF0;have hL:=hL.mono hF0;unfold ak at hi2 ⊢;refine aj ?_;refine bl.seq (bl.dp ok fok ?_);refine aj ?_;have hac:=sK F0 hL g hg hr hw hw1 hw2;unfold ak at hac;refine WT.a6 Tryz.func62 Z Z Z Z Z Z hac (λv hv=>?_);subst hv;refine aj ?_;refine bl.dp ok fok ?_;refine aj ?_;refine bl.cond rfl (λh=>(by cases h)) (λ_=>?_)
 refine bl.skip ok fok ?_;show bl CC Tryz.prog 22 _ _ F0 _ _;refine bl.seq (bl.region (er.take ok fok 2 ?_));refine aj ?_;have hrun:=Jd ok fok F0 g hg ht5 hr hw hw1 hw2 hst;unfold ak at hrun;refine er.call ok rfl (λ_=>rfl) hrun (NO _) (λF1 v o hF1 hv=>?_);obtain⟨rfl,G,L,a1,n1,c1,rfl,h1,h2⟩:=hv;refine er.all ok fok ?_;refine aj ?_;refine bl.gC ok fok ?_;exact AW.ret ⟨_,[],⟨_,_,rfl,⟨_,_,rfl,rfl,rfl⟩,rfl⟩,bY,rfl,G,L,_,_,_,rfl,h1,h2⟩
theorem zT(ok:CC.Ok Tryz.prog)(fok:bS CC Tryz.prog)(F:ar)(hL:Laid F)(g:ai)(hg:Valid g)(ht5:g.ae<=5){a:Option Addr}{m c:Nat}(hr:bj cC F a m c g.rules){b:Option Addr}{n d:Nat}{w:List Nat}(hw:bj dD F b n d w)(hw1:w.length<=12)(hw2:∀t∈w,t<g.ae)
  {S:List (List bQ)} {rows:List (List Int)} (hst:cZ g 1=some (S,rows)) :
  cJ CC Tryz.prog 15 [.agg ⟨ak g a m c⟩,.slice b n d] F [] λF' v o=>o=[]/\HK g S rows w F' v:=by
 refine cJ.fn (n:=11) ok Tryz.func15 rfl rfl λown=>?_;refine bl.dp ok fok ?_;refine WT.cy Z Z Z Z Z Z (λi2 hi2=>?_);refine WT.ay 0 Z Z (λF0 hF0 hB0=>?_);have hi2:=hB0 i2 _ me;have hr:=hr.mono hF0;have hw:=hw.mono hF0;have hL:=hL.mono hF0;unfold ak at hi2 ⊢;refine aj ?_;refine bl.seq (bl.region (er.take ok fok 2 ?_));refine aj ?_;have hrun:=pR ok fok F0 hL g hg ht5 hr hw hw1 hw2 hst;unfold ak at hrun;refine er.call ok rfl (λ_=>rfl) hrun (NO _) (λF1 v o hF1 hv=>?_);obtain⟨rfl,G,L,a1,n1,c1,rfl,h1,h2⟩:=hv
 refine er.all ok fok ?_;refine aj ?_;refine bl.gC ok fok ?_;exact AW.ret ⟨_,[],⟨_,_,rfl,⟨_,_,rfl,rfl,rfl⟩,rfl⟩,bY,rfl,G,L,_,_,_,rfl,h1,h2⟩
def dE:ai:=⟨1,1,0,[⟨0,[⟨false,0⟩,⟨false,0⟩]⟩,⟨0,[⟨true,0⟩]⟩]⟩
def nf:List Nat:=[0,0]
def zY:List (List Nat):=[[6,4,0]]
def Iy:List Key:=[⟨⟨true,0⟩,0,1⟩,⟨⟨false,0⟩,0,1⟩,⟨⟨false,0⟩,0,2⟩,⟨⟨true,0⟩,1,2⟩,⟨⟨false,0⟩,1,2⟩]
theorem tg:Small dE where
 ae:=by decide
 au:=by decide
 start:=by decide
 rules:=by decide
 nodup:=by decide
 ok:=by
  intro r hr;simp only[dE,R0,SR,T4] at hr;rcases hr with rfl | rfl
  ·refine⟨by decide,by decide,λy hy=>?_⟩;simp only[R0,SR,T4] at hy;rcases hy with rfl | rfl<;>simp[ck,dE]
  ·refine⟨by decide,by decide,λy hy=>?_⟩;simp only[R0,SR,T4] at hy;subst hy;simp[ck,dE]
theorem vb{i:Nat}(h:i<2):qF dE nf ⟨false,0⟩ i (i+1):=
 .JD (r:=⟨0,[⟨true,0⟩]⟩) (by simp[dE]) (.cons (.term (by match i,h with | 0,_=>rfl | 1,_=>rfl)) .nil)
theorem Lz:qF dE nf ⟨false,0⟩ 0 2:=
 .JD (r:=⟨0,[⟨false,0⟩,⟨false,0⟩]⟩) (by simp[dE]) (.cons (vb (by decide)) (.cons (vb (i:=1) (by decide)) .nil))
theorem LW{s:Sym}{i j:Nat}(h:qF dE nf s i j):i<j/\j<=2/\(s.term=false->s.n=0):=by
 refine qF.rec (motive_1:=λs i j _=>i<j/\j<=2/\(s.term=false->s.n=0)) (motive_2:=λl i j _=>(l=[]->i=j)/\(l≠[]->i<j/\j<=2)/\i<=j) ?_ ?_ ?_ ?_ h
 ·intro t i h;have:=(gS h).1;have:nf.length=2:=rfl;exact⟨by omega,by omega,λh=>(by cases h)⟩
 ·intro r i j hr _ ih;simp only[dE,R0,SR,T4] at hr;rcases hr with rfl | rfl
  ·have:=ih.2.1 (by simp);exact⟨this.1,this.2,λ_=>rfl⟩
  ·have:=ih.2.1 (by simp);exact⟨this.1,this.2,λ_=>rfl⟩
 ·intro i;exact⟨λ_=>rfl,λh=>absurd rfl h,AS _⟩
 ·intro s l i m j _ _ ih1 ih2;refine⟨λh=>(by cases h),λ_=>?_,by have:=ih2.2.2;omega⟩;by_cases hl:l=[]
  ·have:=ih2.1 hl;omega
  ·have:=ih2.2.1 hl;omega
theorem IF:eK dE nf zY where
 ok:=⟨rfl,by decide,by decide⟩
 iff:=by
  intro n i j hi;have hi:i<=2:=hi;constructor
  ·rintro⟨row,x,h1,h2,h3⟩;have hn:n=0:=by have:=(gS h1).1;have:zY.length=1:=rfl;omega
   subst hn;obtain rfl:row=[6,4,0]:=(BY h1).symm;have hj:j<3:=by
    refine Ec (x:=x) ?_ h3;have:x∈([6,4,0]:List Nat):=gM h2;simp only[R0,SR,T4] at this;rcases this with rfl | rfl | rfl<;>decide
   match i,hi,j,hj with
   | 0,_,0,_=>cases h2;exact absurd h3 (by decide)
   | 0,_,1,_=>exact vb (by decide)
   | 0,_,2,_=>exact Lz
   | 1,_,0,_=>cases h2;exact absurd h3 (by decide)
   | 1,_,1,_=>cases h2;exact absurd h3 (by decide)
   | 1,_,2,_=>exact vb (by decide)
   | 2,_,0,_=>cases h2;exact absurd h3 (by decide)
   | 2,_,1,_=>cases h2;exact absurd h3 (by decide)
   | 2,_,2,_=>cases h2;exact absurd h3 (by decide)
  ·intro h;obtain⟨h1,h2,h3⟩:=LW h;obtain rfl:n=0:=h3 rfl;have:(i=0/\j=1)\/(i=0/\j=2)\/(i=1/\j=2):=by omega
   rcases this with ⟨rfl,rfl⟩ | ⟨rfl,rfl⟩ | ⟨rfl,rfl⟩
   ·exact⟨_,_,rfl,rfl,by decide⟩
   ·exact⟨_,_,rfl,rfl,by decide⟩
   ·exact⟨_,_,rfl,rfl,by decide⟩
theorem DE:Iy.Pairwise (λx y=>iM x y=true):=by decide
theorem HL:mO dE nf zY (rootKey dE nf) Iy where
 sorted:=DE
 first:=by decide
 closed:=by
  have h:∀k∈Iy,∀p∈bU dE nf zY k,∀q∈p.kids,q∈Iy:=by decide
  exact h
 reach:=by
  have r2:cT dE nf zY (rootKey dE nf) ⟨⟨false,0⟩,0,2⟩:=.root;have p2:(⟨0,[⟨⟨false,0⟩,0,1⟩,⟨⟨false,0⟩,1,2⟩]⟩:eI)∈bU dE nf zY ⟨⟨false,0⟩,0,2⟩:=by decide
  have r01:=r2.K1 p2 (q:=⟨⟨false,0⟩,0,1⟩) (by decide);have r12:=r2.K1 p2 (q:=⟨⟨false,0⟩,1,2⟩) (by decide);have p01:(⟨1,[⟨⟨true,0⟩,0,1⟩]⟩:eI)∈bU dE nf zY ⟨⟨false,0⟩,0,1⟩:=by decide
  have p12:(⟨1,[⟨⟨true,0⟩,1,2⟩]⟩:eI)∈bU dE nf zY ⟨⟨false,0⟩,1,2⟩:=by decide
  have t01:=r01.K1 p01 (q:=⟨⟨true,0⟩,0,1⟩) (by decide);have t12:=r12.K1 p12 (q:=⟨⟨true,0⟩,1,2⟩) (by decide);intro k hk;simp only[Iy,R0,SR,T4] at hk;rcases hk with rfl | rfl | rfl | rfl | rfl<;>assumption
def nU(g:ai)(L:List Lr):List Lr:=(List.range g.rules.length).filterMap λk=>match g.rules[k]? with
 | some r=>if L.any (λx=>decide (aQ g x=some ⟨false,r.left⟩)) then some ⟨k,0⟩ else none
 | none=>none
def tH(g:ai):Nat->List Lr->List Lr
 | 0,L=>L
 | n+1,L=>tH g n (L++(nU g L).filter λz=>!decide (z∈L))
def y4(g:ai)(l:List Lr):Option (List Lr):=
 if (nU g (tH g (g.rules.length+1) l)).all λz=>decide (z∈tH g (g.rules.length+1) l) then some ((rS g).filter λz=>decide (z∈tH g (g.rules.length+1) l)) else none
theorem ri{g:ai}{L:List Lr}{z:Lr}:z∈nU g L↔∃k r x,z=⟨k,0⟩/\g.rules[k]?=some r/\x∈L/\aQ g x=some ⟨false,r.left⟩:=by
 unfold nU;rw[Uk];constructor
 ·rintro⟨k,hk,h⟩;split at h
  ·rename_i r hr;split at h
   ·rename_i ha;obtain⟨x,hx,hd⟩:=Sv.1 ha;exact⟨k,r,x,(BY h).symm,hr,hx,S4 hd⟩
   ·cases h
  ·cases h
 ·rintro⟨k,r,x,rfl,hr,hx,ha⟩;refine⟨k,RQ.2 (gS hr).1,?_⟩;rw[hr];dsimp only;rw[By (Sv.2 ⟨x,hx,decide_eq_true ha⟩)]
theorem rN{g:ai}{l:List Lr}:∀(n:Nat) {L:List Lr},(∀x∈L,fD g l x)->∀x∈tH g n L,fD g l x
 | 0,_,h=>h
 | n+1,L,h=>rN n (L:=L++(nU g L).filter λz=>!decide (z∈L)) λx hx=>by
  rcases R5.1 hx with hx | hx
  ·exact h x hx
  ·obtain⟨k,r,y,rfl,hr,hy,ha⟩:=ri.1 (RJ.1 hx).1;exact .more (h y hy) ha hr rfl
theorem uM{g:ai}:∀(n:Nat) {L:List Lr} {x:Lr},x∈L->x∈tH g n L
 | 0,_,_,h=>h
 | n+1,L,x,h=>uM n (Sw _ h)
theorem Bk{g:ai}{l m:List Lr}(h:y4 g l=some m):fP g l=m:=by
 unfold y4 at h;split at h
 ·rename_i hc;obtain rfl:=BY h;unfold fP;refine List.filter_congr λz hz0=>?_;clear hz0;rw[Ta,@decide_eq_true_iff _ (Classical.propDecidable _),decide_eq_true_iff];constructor
  ·intro hz
   induction hz with
   | base h=>exact uM _ h
   | more h1 h2 h3 h4 ih=>
    subst h4;exact S4 (SI.1 hc _ (ri.2 ⟨_,_,_,rfl,h3,ih,h2⟩))
  ·exact rN _ (λx hx=>.base hx) z
 ·cases h
def yU(g:ai)(st:List Lr):List Sym->Option (List (Option (List Lr)))
 | []=>some []
 | y::ys=>match yU g st ys with
  | none=>none
  | some os=>if fz g st y=[] then some (none::os) else match y4 g (fz g st y) with
   | none=>none
   | some s=>some (some s::os)
theorem CX{g:ai}{st:List Lr}:∀{ys:List Sym} {os:List (Option (List Lr))},yU g st ys=some os->(ys.map λy=>if fz g st y=[] then none else some (fP g (fz g st y)))=os
 | [],os,h=>by cases h;rfl
 | y::ys,os,h=>by
  unfold yU at h;cases h1:yU g st ys with
  | none=>rw[h1] at h;cases h
  | some os1=>
   rw[h1] at h;dsimp only at h;rw[JN,CX h1];split at h
   ·rename_i hk;cases h;rw[By hk]
   ·rename_i hk;cases h2:y4 g (fz g st y) with
    | none=>rw[h2] at h;cases h
    | some s=>
     rw[h2] at h;cases h;rw[AT hk,Bk h2]
def KB(g:ai):Nat->Nat->List (List Lr)->List (List Int)->Option (List (List Lr)×List (List Int))
 | 0,_,_,_=>none
 | f+1,i,bz,rows=>match bz[i]? with
  | none=>some (bz,rows)
  | some st=>match yU g st (cB g) with
   | none=>none
   | some os=>if (bZ bz os).1.length<=400 then KB g f (i+1) (bZ bz os).1 (rows++[(bZ bz os).2]) else none
theorem Fe{g:ai}:∀(f f' i:Nat) {bz:List (List Lr)} {rows:List (List Int)} {r},f<=f'->KB g f i bz rows=some r->mh 400 (sx g) f' i bz rows=some r
 | 0,_,_,_,_,_,_,h=>by cases h
 | f+1,0,_,_,_,_,hf,_=>by omega
 | f+1,f'+1,i,bz,rows,r,hf,h=>by
  unfold KB at h;unfold mh;cases hs:bz[i]? with
  | none=>rw[hs] at h;exact h
  | some st=>
   rw[hs] at h;dsimp only at h ⊢;cases h1:yU g st (cB g) with
   | none=>rw[h1] at h;cases h
   | some os=>
    rw[h1] at h;dsimp only at h;have e:sx g st=os:=CX h1;rw[e];split at h
    ·rename_i hl;rw[By hl];exact Fe f f' (i+1) zo h
    ·cases h
def Jq(g:ai):Option (List (List Lr)×List (List Int)):=match y4 g [⟨g.rules.length,0⟩] with
 | none=>none
 | some s=>KB g 40 0 [s] []
theorem Kh{g:ai}{r}(h:Jq g=some r):kI g=some r:=by
 unfold Jq at h;cases h1:y4 g [⟨g.rules.length,0⟩] with
 | none=>rw[h1] at h;cases h
 | some s=>
  rw[h1] at h;unfold kI lX;rw[Bk h1];exact Fe 40 401 0 (by decide) h
def Jl:List (List Lr):=[[⟨0,0⟩,⟨1,0⟩,⟨2,0⟩],[⟨1,1⟩],[⟨0,0⟩,⟨0,1⟩,⟨1,0⟩,⟨2,1⟩],[⟨0,0⟩,⟨0,1⟩,⟨0,2⟩,⟨1,0⟩]]
def xT:List (List Int):=[[1,2],[-1,-1],[1,3],[1,3]]
theorem H3:Jq dE=some (Jl,xT):=by decide +kernel
theorem Ed:∃S,cZ dE 1=some (S,xT)/\S.map aP=Jl:=by
 have hA:=Kh H3;exact⟨kP dE Jl (λ_=>nP dE),by unfold cZ;rw[AT (by decide),hA];rfl,nE⟩
theorem Lu{n:Nat}(h:HD dE n):False:=by
 induction h with
 | mk h1 h2 h3 ih=>
  simp only[dE,R0,SR,T4] at h1;rcases h1 with rfl | rfl
  ·exact ih _ me
  ·have:=h2 _ me;cases this
theorem wZ{w:List Nat}{y:Sym}{T:Tree}{i j:Nat}(h:bD dE w y T i j):i<j:=by
 have h1:=(bD.le h).1;rcases R2 i j with h2 | h2
 ·exact h2
 ·exact(Lu ((bD.begin h).1 zo).2).elim
theorem J3{w:List Nat}{i:Nat}(h:w[i]?=some 0):bD dE w ⟨false,0⟩ (.mk 1 0 [.mk (-1) 0 []]) i (i+1):=.node (k:=1) (r:=⟨0,[⟨true,0⟩]⟩) rfl (.cons (.leaf h) .nil)
theorem LI{s s':Nat}{y:Sym}(h:jP dE xT s y=some s'):y=⟨true,0⟩\/y=⟨false,0⟩:=by
 unfold jP at h;split at h
 ·rename_i hb;have hb:=lM.1 hb;obtain⟨b,n⟩:=y;cases b with
  | true=>have hb:n<1:=hb;left;congr 1;omega
  | false=>have hb:n<1:=hb;right;congr 1;omega
 ·cases h
theorem HX{w σ:List Nat}{τ:List Tree}{i:Nat}(h:Hc dE (jP dE xT) w σ τ i):i=0->σ=[0]:=by
 intro hi;cases h with
 | nil=>rfl
 | snoc h1 h2 h3=>exact absurd (wZ h3) zo
theorem Jr{la:Nat->Lr->Nat->Prop}{G:Gr}{n:Nat}{L:List Nat}(ok:qx dE (nj Jl) la (jP dE xT))(h:pV dE (nj Jl) la (jP dE xT) [0] n 2 G)(hL:nR G 1 L):L=[1,2]:=by
 have h1:∀s,(1,s)∈aU G->s=1\/s=2:=by
  intro s hs;obtain⟨_,_,σ,τ,hl⟩:=h.so.key _ hs;generalize hσ:σ++[s]=σ' at hl;replace hl:Hc dE (jP dE xT) [0] σ' τ 1:=hl;obtain⟨i,hi⟩:∃i,i=1:=⟨1,rfl⟩;rw[<-hi] at hl;cases hl with
  | nil=>exact absurd hi (by decide)
  | @snoc σ0 τ0 i0 j s0 s' y T h1 h2 h3=>
   have hlt:=wZ h3;obtain rfl:i0=0:=by omega
   have e:=HX h1 rfl;have e0:s0=0:=by
    cases σ0 with
    | nil=>simpa using e
    | cons a l=>simp at e
   have e1:s=s':=by
    have:=congrArg List.getLast? hσ;simpa using this
   subst e0 e1;rcases LI h2 with rfl | rfl
   ·left;exact(BY (h2.symm.trans (show jP dE xT 0 ⟨true,0⟩=some 1 from rfl)))
   ·right;exact(BY (h2.symm.trans (show jP dE xT 0 ⟨false,0⟩=some 2 from rfl)))
 have h2:(1,1)∈aU G:=jO (h.sh 0 0 (by decide) rfl 0 1 h.bot rfl);have h3:(1,2)∈aU G:=by
  obtain⟨s',e1,e2⟩:=bD.graph (p:=1) ok (λj hj=>h.red j zo) (λj t hj ht=>h.sh j t zo ht) (J3 (w:=[0]) (i:=0) rfl) (AS _) (s:=0) (x:=⟨dE.rules.length,0⟩) h.bot ok.start ⟨_,ok.Eo⟩ rfl (.inr ⟨λ_ h=>(by cases h),ok.Eo⟩);obtain rfl:=BY ((show jP dE xT 0 ⟨false,0⟩=some 2 from rfl).symm.trans e1);exact jO e2
 have hn:L.Nodup:=hL.sorted.imp λh=>Nat.ne_of_lt h;have hp:L.Perm [1,2]:=(Tt hn (by decide)).2 λs=>by
  rw[hL.mem];constructor
  ·intro h;rcases h1 s h with rfl | rfl<;>simp
  ·intro h;rcases R0.1 h with rfl | h
   ·exact h2
   ·obtain rfl:=RK.1 h;exact h3
 exact hp.eq_of_pairwise (λa b _ _ h1 h2=>by omega) hL.sorted (by decide)
theorem nF(ok:CC.Ok Tryz.prog)(fok:bS CC Tryz.prog)(F:ar)(hL:Laid F)(g:ai)(hg:Valid g)(ht5:g.ae<=5){a:Option Addr}{m c:Nat}(hr:bj cC F a m c g.rules){b:Option Addr}{n d:Nat}{w:List Nat}(hw:bj dD F b n d w)(hw1:w.length<=12)(hw2:∀t∈w,t<g.ae)
  {S:List (List bQ)} {rows:List (List Int)} (hst:cZ g 1=some (S,rows)) :
  cJ CC Tryz.prog 23 [.agg ⟨ak g a m c⟩,.slice b n d] F [] λF' v o=>o=[]/\∃E,eK g w E/\fw g w E F' v:=by
 refine cJ.fn (n:=23) ok Tryz.func23 rfl rfl λown=>?_;refine bl.dp ok fok ?_;refine WT.cy Z Z Z Z Z Z (λi2 hi2=>?_);refine WT.ay 0 Z Z (λF0 hF0 hB0=>?_);have hi2:=hB0 i2 _ me;have hr:=hr.mono hF0;have hw:=hw.mono hF0;have hL:=hL.mono hF0;unfold ak at hi2 ⊢;refine WT.aK hT Z Z Z Z Z Z (λi4 hi4=>?_);refine aj ?_;refine bl.seq (bl.seq (bl.region (er.take ok fok 2 ?_)));refine aj ?_;have hrun:=pR ok fok F0 hL g hg ht5 hr hw hw1 hw2 hst;unfold ak at hrun;refine er.call ok rfl (λ_=>rfl) hrun (NO _) (λF1 v o hF1 hv=>?_)
 obtain⟨rfl,G,L,a1,n1,c1,rfl,h1,h2⟩:=hv;have hr:=hr.mono hF1;have hw:=hw.mono hF1;have hL:=hL.mono hF1;have hi2:=hF1 _ _ hi2;refine er.all ok fok ?_;refine aj ?_;refine bl.dp ok fok ?_;refine aj ?_;refine bl.cond rfl (λh=>(by cases h)) (λ_=>?_);refine bl.skip ok fok ?_;refine bl.gC ok fok ?_;refine aj ?_;have hfo:=kY F1 hL g hg hr hw hw1 hw2;unfold ak at hfo;refine WT.cO Tryz.func20 Z Z Z Z Z Z hfo (λF2 v hF2 hv=>?_);obtain⟨E,hE,hv⟩:=hv;obtain⟨fa,fn,fc,fr,fe,rfl⟩:=eQ hv;refine aj ?_
 exact AW.ret ⟨_,[],⟨_,_,⟨_,rfl,λG h0 s0=>br (s0.has (p:=0) rfl me) (bO hT rfl)⟩,⟨_,_,rfl,rfl,rfl⟩,rfl⟩,bY,rfl,E,hE,hv⟩
theorem ru(F:ar):Abs.Spec CC 46 [] F [] λF' v o=>o=[]/\∃a c,v=.agg ⟨ak dE a 2 c⟩/\bj cC F' a 2 c dE.rules:=by
 refine Abs.Spec.fn (n:=10) Tryz.func46 rfl rfl λown=>?_;refine AW.seq (AW.dp ?_);refine WT.aK hT Z Z Z Z Z Z (λi0 hi0=>?_);refine KM ?_;refine WT.be hT Z Z Z Z Z Z Z Z Z Z Z Z Z Z (λi5 hi5=>?_);refine KM ?_;refine WT.be hT Z Z Z Z Z Z Z Z Z Z Z Z Z Z (λi8 hi8=>?_);refine KM ?_;refine WT.be hT Z Z Z Z Z Z Z Z Z Z Z Z Z Z (λi10 hi10=>?_);refine WT.ay 2 Z Z (λF1 hF1 hB1=>?_);refine WT.ay 1 Z Z (λF2 hF2 hB2=>?_);refine WT.ay 0 Z Z (λF3 hF3 hB3=>?_)
 have h5:bj fh F3 (some ⟨i5,0,none⟩) 2 2 [⟨false,0⟩,⟨false,0⟩]:=(dR.frozen (F:=F) (B:=[(i5,.cells false [.bool false,.int .i64 0,.bool false,.int .i64 0])]) ⟨rfl,.inr ⟨i5,_,rfl,rfl,rfl,aH.cons (R:=fh) (x:=⟨false,0⟩) (l:=[_,_]) rfl (aH.single (R:=fh) (x:=⟨false,0⟩) rfl),by decide⟩⟩ hF1 hB1).mono (hF2.trans hF3);have h8:bj fh F3 (some ⟨i8,0,none⟩) 1 2 [⟨true,0⟩]:=(dR.frozen (F:=F1) (B:=[(i8,.cells false [.bool true,.int .i64 0])]) ⟨rfl,.inr ⟨i8,_,rfl,rfl,rfl,aH.single (R:=fh) (x:=⟨true,0⟩) rfl,by decide⟩⟩ hF2 hB2).mono hF3
 have h10:bj cC F3 (some ⟨i10,0,none⟩) 2 2 dE.rules:=dR.frozen (F:=F3) (B:=[(i10,.cells false [.int .i64 0,.slice (some ⟨i5,0,none⟩) 2 2,.int .i64 0,.slice (some ⟨i8,0,none⟩) 1 2])]) ⟨rfl,.inr ⟨i10,_,rfl,rfl,rfl,aH.cons (R:=cC) (x:=⟨0,[⟨false,0⟩,⟨false,0⟩]⟩) (l:=[_,_]) ⟨_,_,_,rfl,h5⟩ (aH.single (R:=cC) (x:=⟨0,[⟨true,0⟩]⟩) ⟨_,_,_,rfl,h8⟩),by decide⟩⟩ (ar.le.refl _) hB3;refine KM ?_;exact AW.ret ⟨_,[],⟨_,_,⟨_,rfl,λG h0 s0=>br (s0.has (p:=3) rfl me) (bO hT rfl)⟩,rfl,rfl⟩,bY,rfl,_,_,rfl,h10⟩
theorem GA{E:List (List Nat)}{F:ar}{v:Value}(hE:eK dE nf E)(hv:fw dE nf E F v):∃a c r,v=.tuple ⟨[.agg ⟨[.slice a 5 c,.int .i64 r]⟩,.int .i64 0]⟩:=by
 have hgv:=tg.valid;obtain⟨fa,fn,fc,fr,fe,rfl⟩:=eQ hv;obtain rfl:=DQ hE IF;rcases jg hv with ⟨rfl,⟨h1,_⟩ | ⟨_,S,_,hK,hA,_⟩⟩ | ⟨_,_,_,_,_,_,L,h1,h2,h3⟩
 ·exact absurd h1 (by decide)
 ·obtain rfl:=tF hK HL;have hl:=hA.len;obtain rfl:fn=5:=hl;exact⟨_,_,_,rfl⟩
 ·exfalso;have:=Co tg (by decide) (E:=zY) h1 λk hk=>(h2 k hk).Gc hgv (yv hgv nf);omega
theorem Bg(ok:CC.Ok Tryz.prog)(fok:bS CC Tryz.prog)(F:ar)(hL:Laid F):cJ CC Tryz.prog 17 [] F [] λF' v o=>o=[]/\v=.bool true:=by
 have hgv:=tg.valid;obtain⟨S,hst,hSI⟩:=Ed;obtain⟨hA,hLR⟩:=pY hgv hst;rw[hSI] at hLR;refine cJ.fn (n:=41) ok Tryz.func17 rfl rfl λown=>?_;refine bl.dp ok fok ?_;refine aj ?_;refine bl.seq (bl.region (er.take ok fok 2 ?_));refine WT.cO Tryz.func46 Z Z Z Z Z Z (ru F) (λF1 v hF1 hv=>?_);obtain⟨a1,c1,rfl,hr⟩:=hv;refine WT.be hT Z Z Z Z Z Z Z Z Z Z Z Z Z Z (λi7 hi7=>?_);refine WT.ay 0 Z Z (λF2 hF2 hB2=>?_)
 have hw:bj dD F2 (some ⟨i7,0,none⟩) 2 1 nf:=dR.frozen (F:=F2) (B:=[(i7,.cells false [.int .i64 0,.int .i64 0])]) ⟨rfl,.inr ⟨i7,_,rfl,rfl,rfl,ov nf,by decide⟩⟩ (ar.le.refl _) hB2;have hr:=hr.mono hF2;refine aj ?_;refine er.call ok rfl (λ_=>rfl) (nF ok fok F2 ((hL.mono hF1).mono hF2) dE hgv (by decide) hr hw (by decide) (by decide) hst) (NO _) (λF3 v o hF3 hv=>?_);obtain⟨rfl,E,hE,hv⟩:=hv;obtain⟨fa,fc,fr,rfl⟩:=GA hE hv;have hr:=hr.mono hF3;refine er.all ok fok ?_;refine aj ?_;refine WT.aK hT Z Z Z Z Z Z (λi1 hi1=>?_);refine aj ?_
 refine bl.seq (bl.region (er.take ok fok 2 ?_));refine WT.cO Tryz.func46 Z Z Z Z Z Z (ru F3) (λF4 v hF4 hv=>?_);obtain⟨a2,c2,rfl,hr2⟩:=hv;refine WT.be hT Z Z Z Z Z Z Z Z Z Z Z Z Z Z (λi13 hi13=>?_);refine WT.ay 0 Z Z (λF5 hF5 hB5=>?_);have hw2:bj dD F5 (some ⟨i13,0,none⟩) 1 1 [0]:=dR.frozen (F:=F5) (B:=[(i13,.cells false [.int .i64 0])]) ⟨rfl,.inr ⟨i13,_,rfl,rfl,rfl,ov [0],by decide⟩⟩ (ar.le.refl _) hB5;have hr2:=hr2.mono hF5;refine aj ?_
 refine er.call ok rfl (λ_=>rfl) (zT ok fok F5 (((((hL.mono hF1).mono hF2).mono hF3).mono hF4).mono hF5) dE hgv (by decide) hr2 hw2 (by decide) (by decide) hst) (NO _) (λF6 v o hF6 hv=>?_);obtain⟨rfl,G,L,b1,n1,d1,rfl,hLa,hLl,hfin,htop⟩:=hv;rw[hSI] at hfin;have hn1:=hLa.len;rw[hLl] at hn1;obtain rfl:n1=2:=hn1;refine er.all ok fok ?_;refine aj ?_;refine bl.gC ok fok ?_;refine aj ?_;refine WT.bG (j:=1) hT hLa Z Z Z Z Z Z Z Z Z (by rw[hLl];decide) (λl hl b3 off3 ro3 cs3 lx3 hb3 hp3 hrel3=>?_);obtain⟨ta,tn,tc,rfl,hla⟩:=hrel3
 obtain rfl:=Jr hLR hfin (htop 1 l hl);have hn2:=hla.len;obtain rfl:tn=2:=hn2;refine aj ?_;refine WT.be hT Z Z Z Z Z Z Z Z Z Z Z Z Z Z (λi38 hi38=>?_);refine WT.ay 0 Z Z (λF7 hF7 hB7=>?_);have hlb:bj dD F7 (some ⟨i38,0,none⟩) 2 1 [1,2]:=dR.frozen (F:=F7) (B:=[(i38,.cells false [.int .i64 1,.int .i64 2])]) ⟨rfl,.inr ⟨i38,_,rfl,rfl,rfl,ov [1,2],by decide⟩⟩ (ar.le.refl _) hB7;refine WT.a6 Tryz.func12 Z Z Z Z Z Z (wg F7 (hla.mono hF7) hlb (by decide)) (λv hv=>?_);subst hv;refine aj ?_;exact AW.ret ⟨_,[],⟨_,_,rfl,rfl,rfl⟩,bY,rfl,rfl⟩
end Go.Proofs.D
set_option linter.unusedVariables false
namespace Bd
abbrev Ru:=Nat×List Nat
inductive Pd(R:List Ru)(s0:Nat):List Nat->Nat->Prop
 | start:Pd R s0 [] s0
 | one {z m:Nat} {w l:List Nat} {r:Ru}:r∈R->r.2=z::(3+m)::l->Pd R s0 w r.1->Pd R s0 (z::w) m
 | two {y z m:Nat} {w l:List Nat} {r:Ru}:r∈R->r.2=y::z::(3+m)::l->Pd R s0 w r.1->Pd R s0 (z::y::w) m
 | xG {m:Nat} {w l:List Nat} {r:Ru}:Pd R s0 w r.1->r∈R->r.2=(3+m)::l->Pd R s0 w m
section
variable (R:List Ru)(s0:Nat)
def I1:List Nat->Ru->Prop
 | z::w,r=>(∃l,r.2=z::l)/\Pd R s0 w r.1
 | _,_=>False
def I2:List Nat->Ru->Prop
 | z::y::w,r=>(∃l,r.2=y::z::l)/\Pd R s0 w r.1
 | _,_=>False
def I3:List Nat->Ru->Prop
 | z::y::x::w,r=>(∃l,r.2=x::y::z::l)/\Pd R s0 w r.1
 | _,_=>False
def pB(a b:List Nat):Prop:=∀r∈R,(I1 R s0 a r↔I1 R s0 b r)/\(I2 R s0 a r↔I2 R s0 b r)/\(I3 R s0 a r↔I3 R s0 b r)
def Lf(p:List Nat):List Nat:=(List.range 4).filter λn=>R.any λr=>r.1==n&&p.isPrefixOf r.2
end
theorem Nj:∀(N:Nat) (l:List Nat),l.Nodup->(∀x∈l,x<N)->l.length<=N:=by
 intro N
 induction N with
 | zero=>
  intro l hl h;cases l with
  | nil=>simp
  | cons a t=>exact absurd (h a me) (Tl _)
 | succ N ih=>
  intro l hl h
  have h1:=ih (l.erase N) (hl.erase N) (λx hx=>by
   have:=(hl.mem_erase_iff).1 hx;have:=h x this.2;omega)
  have h2:=List.length_erase (a:=N) (l:=l);split at h2<;>omega
theorem nS{α:Type}{P:α->α->Prop}(f:α->Nat)(N:Nat)(l:List α)(hd:l.Pairwise λa b=>¬P a b)(hN:∀a∈l,f a<N)
  (hf:∀a∈l,∀b∈l,f a=f b->P a b):l.length<=N:=by
 have h:(l.map f).Nodup:=by
  rw[SW,TC];exact hd.imp_of_mem λha hb h e=>h (hf _ ha _ hb e)
 have:=Nj N (l.map f) h (λx hx=>by obtain⟨a,ha,rfl⟩:=RI.1 hx;exact hN a ha);simpa using this
theorem parts{α κ:Type}[DecidableEq κ](c:α->κ):∀(C:List κ) (l:List α),(∀a∈l,c a∈C)->
  l.length<=(C.map λk=>(l.filter λa=>c a=k).length).sum:=by
 intro C
 induction C with
 | nil=>
  intro l h;cases l with
  | nil=>simp
  | cons a t=>exact absurd (h a me) SR
 | cons k C ih=>
  intro l h
  have h1:=ih (l.filter λa=>¬c a=k) (λa ha=>by
   rw[RJ] at ha;have h2:=h a ha.1;rcases R0.1 h2 with h3 | h3
   ·exact absurd h3 (by simpa using ha.2)
   ·exact h3)
  have h2:l.length=(l.filter λa=>c a=k).length+(l.filter λa=>¬c a=k).length:=by
   have:=TL (λa=>decide (c a=k)) (l:=l);rw[Sn,Sn] at this;simpa using this
  have h3:(C.map λk'=>((l.filter λa=>¬c a=k).filter λa=>c a=k').length).sum<=(C.map λk'=>(l.filter λa=>c a=k').length).sum:=by
   clear ih h h1 h2
   induction C with
   | nil=>simp
   | cons k' C ih2=>
    simp only[JN,SG];have:((l.filter λa=>¬c a=k).filter λa=>c a=k').length<=(l.filter λa=>c a=k').length:=by
     rw[List.filter_filter];have h5:(l.filter λa=>(decide (c a=k')&&decide (¬c a=k)))=(l.filter λa=>decide (c a=k')).filter λa=>decide (¬c a=k):=by
      rw[List.filter_filter];congr 1;funext a;rw[Bool.and_comm]
     rw[h5];exact TQ _ _
    omega
  simp only[JN,SG];omega
open Classical in
noncomputable def bits{α:Type}(P:α->Prop):List α->Nat
 | []=>0
 | n::L=>(if P n then 1 else 0)+2*bits P L
theorem cR{α:Type}(P:α->Prop):∀L,bits P L<2 ^ L.length
 | []=>by simp[bits]
 | n::L=>by
  have:=cR P L;simp only[bits,R4,TG];split<;>omega
theorem eU{α:Type}{P Q:α->Prop}:∀{L:List α},bits P L=bits Q L->∀n∈L,(P n↔Q n)
 | [],_,n,h=>absurd h SR
 | k::L,e,n,h=>by
  simp only[bits] at e;have h1:(P k↔Q k)/\bits P L=bits Q L:=by
   by_cases hp:P k<;>by_cases hq:Q k<;>simp[hp,hq] at e ⊢<;>omega
  rcases R0.1 h with rfl | h
  ·exact h1.1
  ·exact eU h1.2 n h
theorem ij{α:Type}{P:α->Prop}:∀{L:List α} {n:α},n∈L->P n->0<bits P L
 | k::L,n,h,hp=>by
  simp only[bits];rcases R0.1 h with rfl | h
  ·rw[By hp];omega
  ·have:=ij h hp;omega
end Bd
set_option linter.unusedVariables false
namespace Bd
structure lT(R:List Ru):Prop where
 left:∀r∈R,r.1<4
 sym:∀r∈R,∀s∈r.2,s<7
 len:∀r∈R,r.2.length<=3
 qL:R.length<=8
section
variable {R:List Ru}{s0:Nat}(ok:lT R)
include ok
theorem da{p l:List Nat}{r:Ru}(h:r∈R)(e:r.2=p++l):r.1∈Lf R p:=by
 unfold Lf;rw[RJ,RQ];refine⟨ok.left r h,?_⟩;rw[Sv];exact⟨r,h,by rw[e];simp⟩
omit ok in
theorem fH{p q:List Nat}{n:Nat}(h:n∈Lf R (p++q)):n∈Lf R p:=by
 unfold Lf at h ⊢;rw[RJ] at h ⊢;refine⟨h.1,?_⟩;have h2:=h.2;rw[Sv] at h2 ⊢;obtain⟨r,hr,e⟩:=h2;refine⟨r,hr,?_⟩;simp only[IN,Sr] at e ⊢;exact⟨e.1,(Up p q).trans e.2⟩
omit ok in
theorem dr(p:List Nat):(Lf R p).Nodup:=Sx _ UA
omit ok in
theorem Jj{p:List Nat}{n:Nat}(h:n∈Lf R p):n<4:=by
 unfold Lf at h;rw[RJ,RQ] at h;exact h.1
theorem Kj{z y x:Nat}{u v:List Nat}(h2:∀n∈Lf R [z],(Pd R s0 (y::x::u) n↔Pd R s0 (y::x::v) n))
  (h1:∀n∈Lf R [y,z],(Pd R s0 (x::u) n↔Pd R s0 (x::v) n)) (h0:∀n∈Lf R [x,y,z],(Pd R s0 u n↔Pd R s0 v n)) :
  pB R s0 (z::y::x::u) (z::y::x::v):=by
 intro r hr;refine⟨⟨λ⟨⟨l,e⟩,h⟩=>⟨⟨l,e⟩,(h2 _ (da ok hr (p:=[z]) e)).1 h⟩,λ⟨⟨l,e⟩,h⟩=>⟨⟨l,e⟩,(h2 _ (da ok hr (p:=[z]) e)).2 h⟩⟩,
  ⟨λ⟨⟨l,e⟩,h⟩=>⟨⟨l,e⟩,(h1 _ (da ok hr (p:=[y,z]) e)).1 h⟩,λ⟨⟨l,e⟩,h⟩=>⟨⟨l,e⟩,(h1 _ (da ok hr (p:=[y,z]) e)).2 h⟩⟩,
  ⟨λ⟨⟨l,e⟩,h⟩=>⟨⟨l,e⟩,(h0 _ (da ok hr (p:=[x,y,z]) e)).1 h⟩,λ⟨⟨l,e⟩,h⟩=>⟨⟨l,e⟩,(h0 _ (da ok hr (p:=[x,y,z]) e)).2 h⟩⟩⟩
theorem HY{z y:Nat}{u v:List Nat}(h2:∀n∈Lf R [z],(Pd R s0 (y::u) n↔Pd R s0 (y::v) n))
  (h1:∀n∈Lf R [y,z],(Pd R s0 u n↔Pd R s0 v n)) (hu:∀r∈R,¬I3 R s0 (z::y::u) r) (hv:∀r∈R,¬I3 R s0 (z::y::v) r) :
  pB R s0 (z::y::u) (z::y::v):=by
 intro r hr;refine⟨⟨λ⟨⟨l,e⟩,h⟩=>⟨⟨l,e⟩,(h2 _ (da ok hr (p:=[z]) e)).1 h⟩,λ⟨⟨l,e⟩,h⟩=>⟨⟨l,e⟩,(h2 _ (da ok hr (p:=[z]) e)).2 h⟩⟩,
  ⟨λ⟨⟨l,e⟩,h⟩=>⟨⟨l,e⟩,(h1 _ (da ok hr (p:=[y,z]) e)).1 h⟩,λ⟨⟨l,e⟩,h⟩=>⟨⟨l,e⟩,(h1 _ (da ok hr (p:=[y,z]) e)).2 h⟩⟩,
  ⟨λh=>absurd h (hu r hr),λh=>absurd h (hv r hr)⟩⟩
theorem Oi{z:Nat}{u v:List Nat}(h2:∀n∈Lf R [z],(Pd R s0 u n↔Pd R s0 v n))(hu:∀r∈R,¬I3 R s0 (z::u) r)
  (hv:∀r∈R,¬I3 R s0 (z::v) r) (hu2:∀r∈R,¬I2 R s0 (z::u) r) (hv2:∀r∈R,¬I2 R s0 (z::v) r) :
  pB R s0 (z::u) (z::v):=by
 intro r hr;refine⟨⟨λ⟨⟨l,e⟩,h⟩=>⟨⟨l,e⟩,(h2 _ (da ok hr (p:=[z]) e)).1 h⟩,λ⟨⟨l,e⟩,h⟩=>⟨⟨l,e⟩,(h2 _ (da ok hr (p:=[z]) e)).2 h⟩⟩,
  ⟨λh=>absurd h (hu2 r hr),λh=>absurd h (hv2 r hr)⟩,⟨λh=>absurd h (hu r hr),λh=>absurd h (hv r hr)⟩⟩
theorem Mf{y x:Nat}{u v:List Nat}(h1:∀n∈Lf R [y],Pd R s0 (x::u) n->Pd R s0 (x::v) n)
  (h0:∀n∈Lf R [x,y],Pd R s0 u n->Pd R s0 v n):∀m,Pd R s0 (y::x::u) m->Pd R s0 (y::x::v) m:=by
 intro m h;generalize e:y::x::u=W at h
 induction h with
 | start=>cases e
 | one hr e2 hp _=>
  simp only[R1] at e;obtain⟨rfl,rfl⟩:=e;exact .one hr e2 (h1 _ (da ok hr (p:=[y]) e2) hp)
 | two hr e2 hp _=>
  simp only[R1] at e;obtain⟨rfl,rfl,rfl⟩:=e;exact .two hr e2 (h0 _ (da ok hr (p:=[x,y]) e2) hp)
 | xG hp hr e2 ih=>exact .xG (ih e) hr e2
theorem zW{y x:Nat}{u v:List Nat}(h1:∀n∈Lf R [y],(Pd R s0 (x::u) n↔Pd R s0 (x::v) n))
  (h0:∀n∈Lf R [x,y],(Pd R s0 u n↔Pd R s0 v n)) (m:Nat):Pd R s0 (y::x::u) m↔Pd R s0 (y::x::v) m:=
 ⟨Mf ok (λn hn=>(h1 n hn).1) (λn hn=>(h0 n hn).1) m,Mf ok (λn hn=>(h1 n hn).2) (λn hn=>(h0 n hn).2) m⟩
end
open Classical in
noncomputable def HC(R:List Ru)(s0:Nat)(w:List Nat):Nat:=
 if ∃r∈R,I3 R s0 w r then 3 else if ∃r∈R,I2 R s0 w r then 2 else 1
noncomputable def ctx(R:List Ru)(s0:Nat)(w:List Nat):List Nat:=w.take (HC R s0 w)
def Live(R:List Ru)(s0:Nat)(w:List Nat):Prop:=∃r∈R,I1 R s0 w r\/I2 R s0 w r\/I3 R s0 w r
def O4:List (List Nat):=(List.range 7).map λz=>[z]
def Oe:List (List Nat):=(List.range 7).flatMap λy=>(List.range 7).map λz=>[z,y]
def OS:List (List Nat):=(List.range 7).flatMap λx=>(List.range 7).flatMap λy=>(List.range 7).map λz=>[z,y,x]
def Gx:List (List Nat):=O4++(Oe++OS)
section
variable {R:List Ru}{s0:Nat}
theorem Hx{w:List Nat}:HC R s0 w=3↔∃r∈R,I3 R s0 w r:=by
 unfold HC;by_cases h:∃r∈R,I3 R s0 w r
 ·rw[By h];exact⟨λ_=>h,λ_=>rfl⟩
 ·rw[AT h];refine⟨λe=>?_,λh2=>absurd h2 h⟩;split at e<;>cases e
theorem LV{w:List Nat}:HC R s0 w=2↔(¬∃r∈R,I3 R s0 w r)/\∃r∈R,I2 R s0 w r:=by
 unfold HC;by_cases h:∃r∈R,I3 R s0 w r
 ·rw[By h];exact⟨λe=>(by cases e),λh2=>absurd h h2.1⟩
 ·rw[AT h];by_cases h2:∃r∈R,I2 R s0 w r
  ·rw[By h2];exact⟨λ_=>⟨h,h2⟩,λ_=>rfl⟩
  ·rw[AT h2];exact⟨λe=>(by cases e),λh3=>absurd h3.2 h2⟩
theorem NV{w:List Nat}:HC R s0 w=1↔(¬∃r∈R,I3 R s0 w r)/\¬∃r∈R,I2 R s0 w r:=by
 unfold HC;by_cases h:∃r∈R,I3 R s0 w r
 ·rw[By h];exact⟨λe=>(by cases e),λh2=>absurd h h2.1⟩
 ·rw[AT h];by_cases h2:∃r∈R,I2 R s0 w r
  ·rw[By h2];exact⟨λe=>(by cases e),λh3=>absurd h2 h3.2⟩
  ·rw[AT h2];exact⟨λ_=>⟨h,h2⟩,λ_=>rfl⟩
theorem jY(w:List Nat):HC R s0 w=1\/HC R s0 w=2\/HC R s0 w=3:=by
 unfold HC;split
 ·exact .inr (.inr rfl)
 ·split
  ·exact .inr (.inl rfl)
  ·exact .inl rfl
theorem KZ(ok:lT R){w:List Nat}(h:Live R s0 w):ctx R s0 w∈Gx:=by
 unfold ctx Gx;rcases jY (R:=R) (s0:=s0) w with e | e | e
 ·rw[e];obtain⟨h3,h2⟩:=NV.1 e;obtain⟨r,hr,h | h | h⟩:=h
  ·match w,h with
   | z::w,⟨⟨l,e⟩,_⟩=>
    refine Sw _ (RI.2 ⟨z,RQ.2 (ok.sym r hr z (by rw[e];simp)),by simp⟩)
  ·exact absurd ⟨r,hr,h⟩ h2
  ·exact absurd ⟨r,hr,h⟩ h3
 ·rw[e];obtain⟨_,r,hr,h⟩:=LV.1 e
  match w,h with
  | z::y::w,⟨⟨l,e⟩,_⟩=>
   refine SC _ (Sw _ (S3.2 ⟨y,RQ.2 (ok.sym r hr y (by rw[e];simp)),
    RI.2 ⟨z,RQ.2 (ok.sym r hr z (by rw[e];simp)),by simp⟩⟩))
 ·rw[e];obtain⟨r,hr,h⟩:=Hx.1 e
  match w,h with
  | z::y::x::w,⟨⟨l,e⟩,_⟩=>
   refine SC _ (SC _ (S3.2 ⟨x,RQ.2 (ok.sym r hr x (by rw[e];simp)),
    S3.2 ⟨y,RQ.2 (ok.sym r hr y (by rw[e];simp)),RI.2 ⟨z,RQ.2 (ok.sym r hr z (by rw[e];simp)),by simp⟩⟩⟩))
noncomputable def dA(R:List Ru)(s0:Nat)(ws:List (List Nat))(c:List Nat):List (List Nat):=ws.filter λw=>ctx R s0 w=c
theorem pb(ok:lT R){ws:List (List Nat)}(h:∀w∈ws,Live R s0 w) :
  ws.length<=(Gx.map λc=>(dA R s0 ws c).length).sum:=parts (ctx R s0) Gx ws λw hw=>KZ ok (h w hw)
theorem Aq{w:List Nat}{z:Nat}(h:Live R s0 w)(e:ctx R s0 w=[z]):(∃u,w=z::u)/\(∀r∈R,¬I3 R s0 w r)/\(∀r∈R,¬I2 R s0 w r)/\∃r∈R,I1 R s0 w r:=by
 unfold ctx at e;rcases jY (R:=R) (s0:=s0) w with a | a | a
 ·rw[a] at e;obtain⟨h3,h2⟩:=NV.1 a;have h3:∀r∈R,¬I3 R s0 w r:=λr hr hi=>h3 ⟨r,hr,hi⟩;have h2:∀r∈R,¬I2 R s0 w r:=λr hr hi=>h2 ⟨r,hr,hi⟩;obtain⟨r,hr,hi | hi | hi⟩:=h
  ·match w,e with
   | z'::u,e=>simp at e;subst e;exact⟨⟨u,rfl⟩,h3,h2,r,hr,hi⟩
  ·exact absurd hi (h2 r hr)
  ·exact absurd hi (h3 r hr)
 ·rw[a] at e;obtain⟨_,r,hr,hi⟩:=LV.1 a
  match w,hi with
  | z::y::u,_=>simp at e
 ·rw[a] at e;obtain⟨r,hr,hi⟩:=Hx.1 a
  match w,hi with
  | z::y::x::u,_=>simp at e
theorem vf{w:List Nat}{z y:Nat}(h:Live R s0 w)(e:ctx R s0 w=[z,y]):(∃u,w=z::y::u)/\(∀r∈R,¬I3 R s0 w r)/\∃r∈R,I2 R s0 w r:=by
 unfold ctx at e;rcases jY (R:=R) (s0:=s0) w with a | a | a
 ·rw[a] at e
  match w,e with
  | [],e=>simp at e
  | z'::u,e=>simp at e
 ·rw[a] at e;obtain⟨h3,r,hr,hi⟩:=LV.1 a
  match w,hi with
  | z'::y'::u,hi=>simp at e;obtain⟨rfl,rfl⟩:=e;exact⟨⟨u,rfl⟩,λr hr hi=>h3 ⟨r,hr,hi⟩,r,hr,hi⟩
 ·rw[a] at e;obtain⟨r,hr,hi⟩:=Hx.1 a
  match w,hi with
  | z::y::x::u,_=>simp at e
theorem tV{w:List Nat}{z y x:Nat}(e:ctx R s0 w=[z,y,x]):(∃u,w=z::y::x::u)/\∃r∈R,I3 R s0 w r:=by
 unfold ctx at e;rcases jY (R:=R) (s0:=s0) w with a | a | a
 ·rw[a] at e
  match w,e with
  | [],e=>simp at e
  | z'::u,e=>simp at e
 ·rw[a] at e
  match w,e with
  | [],e=>simp at e
  | [z'],e=>simp at e
  | z'::y'::u,e=>simp at e
 ·rw[a] at e;obtain⟨r,hr,hi⟩:=Hx.1 a
  match w,hi with
  | z'::y'::x'::u,hi=>simp at e;obtain⟨rfl,rfl,rfl⟩:=e;exact⟨⟨u,rfl⟩,r,hr,hi⟩
end
end Bd
set_option linter.unusedVariables false
namespace Bd
theorem ef{a b c d N:Nat}(hb:b<N)(hd:d<N)(e:a*N+b=c*N+d):a=c/\b=d:=by
 have h1:(a*N+b) / N=a:=by rw[Ud,Nat.add_mul_div_right _ _ zo,Nat.div_eq_of_lt hb];omega
 have h2:(c*N+d) / N=c:=by rw[Ud,Nat.add_mul_div_right _ _ zo,Nat.div_eq_of_lt hd];omega
 have h3:a=c:=by rw[<-h1,<-h2,e]
 subst h3;exact⟨rfl,by omega⟩
theorem fp{a b A N:Nat}(ha:a<A)(hb:b<N):a*N+b<A*N:=by
 have:(a+1)*N<=A*N:=OF _ ha;rw[Ss,S7] at this;omega
section
variable {R:List Ru}{s0:Nat}{ws:List (List Nat)}
structure bP(R:List Ru)(s0:Nat)(ws:List (List Nat)):Prop where
 ok:lT R
 live:∀w∈ws,Live R s0 w
 diff:ws.Pairwise λa b=>¬pB R s0 a b
theorem jj{c w:List Nat}:w∈dA R s0 ws c↔w∈ws/\ctx R s0 w=c:=by
 unfold dA;rw[RJ];simp
theorem bP.Mu(G:bP R s0 ws){z N:Nat}(f:List Nat->Nat)
  (hN:∀u,(∃r∈R,I1 R s0 (z::u) r)->f u<N) (hf:∀u v,(∃r∈R,I1 R s0 (z::u) r)->(∃r∈R,I1 R s0 (z::v) r)->f u=f v->∀n∈Lf R [z],(Pd R s0 u n↔Pd R s0 v n)) :
  (dA R s0 ws [z]).length<=N:=by
 refine nS (P:=pB R s0) (λw=>f w.tail) N _ (Sx _ G.diff) (λw hw=>?_) (λa ha b hb e=>?_)
 ·obtain⟨h1,h2⟩:=jj.1 hw;obtain⟨⟨u,rfl⟩,_,_,h3⟩:=Aq (G.live _ h1) h2;exact hN u h3
 ·obtain⟨h1,h2⟩:=jj.1 ha;obtain⟨⟨u,rfl⟩,a3,a2,a1⟩:=Aq (G.live _ h1) h2;obtain⟨k1,k2⟩:=jj.1 hb;obtain⟨⟨v,rfl⟩,b3,b2,b1⟩:=Aq (G.live _ k1) k2;exact Oi G.ok (hf u v a1 b1 e) a3 b3 a2 b2
theorem bP.IM(G:bP R s0 ws){z y N:Nat}(f:List Nat->Nat)
  (hN:∀u,(∃r∈R,I2 R s0 (z::y::u) r)->f u<N)
  (hf:∀u v,(∃r∈R,I2 R s0 (z::y::u) r)->(∃r∈R,I2 R s0 (z::y::v) r)->f u=f v->
   (∀n∈Lf R [z],(Pd R s0 (y::u) n↔Pd R s0 (y::v) n))/\∀n∈Lf R [y,z],(Pd R s0 u n↔Pd R s0 v n)) :
  (dA R s0 ws [z,y]).length<=N:=by
 refine nS (P:=pB R s0) (λw=>f w.tail.tail) N _ (Sx _ G.diff) (λw hw=>?_) (λa ha b hb e=>?_)
 ·obtain⟨h1,h2⟩:=jj.1 hw;obtain⟨⟨u,rfl⟩,_,h3⟩:=vf (G.live _ h1) h2;exact hN u h3
 ·obtain⟨h1,h2⟩:=jj.1 ha;obtain⟨⟨u,rfl⟩,a3,a2⟩:=vf (G.live _ h1) h2;obtain⟨k1,k2⟩:=jj.1 hb;obtain⟨⟨v,rfl⟩,b3,b2⟩:=vf (G.live _ k1) k2;obtain⟨e1,e2⟩:=hf u v a2 b2 e;exact HY G.ok e1 e2 a3 b3
theorem bP.Az(G:bP R s0 ws){z y x N:Nat}(f:List Nat->Nat)
  (hN:∀u,(∃r∈R,I3 R s0 (z::y::x::u) r)->f u<N)
  (hf:∀u v,(∃r∈R,I3 R s0 (z::y::x::u) r)->(∃r∈R,I3 R s0 (z::y::x::v) r)->f u=f v->
   (∀n∈Lf R [z],(Pd R s0 (y::x::u) n↔Pd R s0 (y::x::v) n))/\(∀n∈Lf R [y,z],(Pd R s0 (x::u) n↔Pd R s0 (x::v) n))/\
    ∀n∈Lf R [x,y,z],(Pd R s0 u n↔Pd R s0 v n)) :
  (dA R s0 ws [z,y,x]).length<=N:=by
 refine nS (P:=pB R s0) (λw=>f w.tail.tail.tail) N _ (Sx _ G.diff) (λw hw=>?_) (λa ha b hb e=>?_)
 ·obtain⟨h1,h2⟩:=jj.1 hw;obtain⟨⟨u,rfl⟩,h3⟩:=tV h2;exact hN u h3
 ·obtain⟨h1,h2⟩:=jj.1 ha;obtain⟨⟨u,rfl⟩,a3⟩:=tV h2;obtain⟨k1,k2⟩:=jj.1 hb;obtain⟨⟨v,rfl⟩,b3⟩:=tV k2;obtain⟨e1,e2,e3⟩:=hf u v a3 b3 e;exact Kj G.ok e1 e2 e3
def Mv(R:List Ru)(s0 z:Nat)(w:List Nat):Prop:=∀m,z=3+m->Pd R s0 w m
def Ne(R:List Ru)(s0:Nat)(L:List Nat)(w:List Nat):Prop:=∃n∈L,Pd R s0 w n
def kL(R:List Ru)(s0:Nat)(Q:List Nat->Prop)(L:List Nat)(K:Nat):Prop:=
 ∃c:List Nat->Nat,(∀w,Q w->c w<K)/\∀w w',Q w->Q w'->c w=c w'->∀n∈L,(Pd R s0 w n↔Pd R s0 w' n)
theorem kL.mono{Q:List Nat->Prop}{L:List Nat}{K J:Nat}(h:kL R s0 Q L K)(hk:K<=J):kL R s0 Q L J:=by
 obtain⟨c,h1,h2⟩:=h;exact⟨c,λw hw=>SH (h1 w hw) hk,h2⟩
theorem kL.inf{Q:List Nat->Prop}{L:List Nat}{K J:Nat}(h:kL R s0 Q L K)(h':kL R s0 Q L J):kL R s0 Q L (min K J):=by
 rcases TZ K J with e | e
 ·rw[SN e];exact h
 ·rw[To e];exact h'
theorem rQ(Q:List Nat->Prop)(L:List Nat):kL R s0 Q L (2 ^ L.length):=
 ⟨λw=>bits (Pd R s0 w) L,λw _=>cR _ _,λw w' _ _ e=>eU e⟩
theorem j9{Q:List Nat->Prop}{L:List Nat}(h:∀w,Q w->Ne R s0 L w):kL R s0 Q L (2 ^ L.length-1):=
 ⟨λw=>bits (Pd R s0 w) L-1,
  λw hw=>by obtain⟨n,h1,h2⟩:=h w hw;have:=cR (Pd R s0 w) L;have:=ij h1 h2;simp only[];omega,
  λw w' hw hw' e=>eU (by
   simp only[] at e;obtain⟨n,h1,h2⟩:=h w hw;obtain⟨m,h3,h4⟩:=h w' hw';have:=ij h1 h2;have:=ij h3 h4;omega)⟩
theorem wk{Q:List Nat->Prop}{L M:List Nat}(hM:M.Nodup)(hL:L.Nodup)(hs:∀n∈M,n∈L)(h:∀w,Q w->Ne R s0 M w) :
  kL R s0 Q L ((2 ^ M.length-1)*2 ^ (L.length-M.length)):=by
 have hlen:(L.filter λn=>n∉M).length=L.length-M.length:=by
  have h1:=TL (λn=>decide (n∈M)) (l:=L);rw[Sn,Sn] at h1;have h2:(L.filter λn=>decide (n∈M)).length=M.length:=by
   apply List.Perm.length_eq;apply (Tt (Sx _ hL) hM).2;intro a;rw[RJ];simp only[Su];exact⟨λh=>h.2,λh=>⟨hs a h,h⟩⟩
  simp only[decide_not,Bool.decide_eq_true] at h1 ⊢;omega
 have hb:∀w,bits (Pd R s0 w) (L.filter λn=>n∉M)<2 ^ (L.length-M.length):=λw=>by
  rw[<-hlen];exact cR _ _
 refine⟨λw=>(bits (Pd R s0 w) M-1)*2 ^ (L.length-M.length)+bits (Pd R s0 w) (L.filter λn=>n∉M),λw hw=>?_,λw w' hw hw' e k hk=>?_⟩
 ·obtain⟨n,h1,h2⟩:=h w hw;refine fp ?_ (hb w);have:=cR (Pd R s0 w) M;have:=ij h1 h2;omega
 ·obtain⟨n,h1,h2⟩:=h w hw;obtain⟨m,h3,h4⟩:=h w' hw';obtain⟨e1,e2⟩:=ef (hb w) (hb w') e;by_cases hkM:k∈M
  ·exact eU (by have:=ij h1 h2;have:=ij h3 h4;omega) k hkM
  ·exact eU e2 k (by rw[RJ];exact⟨hk,by simpa using hkM⟩)
theorem Q9{z:Nat}{u:List Nat}{r:Ru}(hr:r∈R)(h:I1 R s0 (z::u) r):Mv R s0 z u:=by
 obtain⟨⟨l,e⟩,hp⟩:=h;rintro m rfl;exact .xG hp hr e
theorem Pe{z y:Nat}{u:List Nat}{r:Ru}(hr:r∈R)(h:I2 R s0 (z::y::u) r):Mv R s0 z (y::u)/\Mv R s0 y u:=by
 obtain⟨⟨l,e⟩,hp⟩:=h;exact⟨by rintro m rfl;exact .one hr e hp,by rintro m rfl;exact .xG hp hr e⟩
theorem Qq{z y x:Nat}{u:List Nat}{r:Ru}(hr:r∈R)(h:I3 R s0 (z::y::x::u) r) :
  Mv R s0 z (y::x::u)/\Mv R s0 y (x::u)/\Mv R s0 x u:=by
 obtain⟨⟨l,e⟩,hp⟩:=h;exact⟨by rintro m rfl;exact .two hr e hp,by rintro m rfl;exact .one hr e hp,by rintro m rfl;exact .xG hp hr e⟩
def QE(R:List Ru)(s0 z:Nat)(L:List Nat)(w:List Nat):Prop:=Mv R s0 z w/\Ne R s0 L w
def QV(R:List Ru)(s0 z y:Nat)(w:List Nat):Prop:=Mv R s0 z w/\∃u,w=y::u
theorem bP.n1(G:bP R s0 ws){z K:Nat}(h:kL R s0 (QE R s0 z (Lf R [z])) (Lf R [z]) K):(dA R s0 ws [z]).length<=K:=by
 obtain⟨c,h1,h2⟩:=h;have key:∀u,(∃r∈R,I1 R s0 (z::u) r)->QE R s0 z (Lf R [z]) u:=by
  rintro u ⟨r,hr,hi⟩;refine⟨Q9 hr hi,?_⟩;obtain⟨⟨l,e⟩,hp⟩:=hi;exact⟨r.1,da G.ok hr (p:=[z]) e,hp⟩
 exact G.Mu c (λu hu=>h1 u (key u hu)) (λu v hu hv e=>h2 u v (key u hu) (key v hv) e)
theorem bP.n2(G:bP R s0 ws){z y K J:Nat}(h:kL R s0 (QE R s0 y (Lf R [y,z])) (Lf R [y,z]) K)(h':kL R s0 (QV R s0 z y) (Lf R [z]) J) :
  (dA R s0 ws [z,y]).length<=K*J:=by
 obtain⟨c,c1,c2⟩:=h;obtain⟨d,d1,d2⟩:=h';have k1:∀u,(∃r∈R,I2 R s0 (z::y::u) r)->QE R s0 y (Lf R [y,z]) u:=by
  rintro u ⟨r,hr,hi⟩;refine⟨(Pe hr hi).2,?_⟩;obtain⟨⟨l,e⟩,hp⟩:=hi;exact⟨r.1,da G.ok hr (p:=[y,z]) e,hp⟩
 have k2:∀u,(∃r∈R,I2 R s0 (z::y::u) r)->QV R s0 z y (y::u):=by
  rintro u ⟨r,hr,hi⟩;exact⟨(Pe hr hi).1,u,rfl⟩
 refine G.IM (λu=>c u*J+d (y::u)) (λu hu=>fp (c1 u (k1 u hu)) (d1 _ (k2 u hu))) (λu v hu hv e=>?_);obtain⟨e1,e2⟩:=ef (d1 _ (k2 u hu)) (d1 _ (k2 v hv)) e;exact⟨d2 _ _ (k2 u hu) (k2 v hv) e2,c2 u v (k1 u hu) (k1 v hv) e1⟩
theorem Ac(ok:lT R){z y x:Nat}{u:List Nat}(h:∃r∈R,I3 R s0 (z::y::x::u) r) :
  QE R s0 x (Lf R [x,y,z]) u/\QV R s0 y x (x::u)/\QV R s0 z y (y::x::u):=by
 obtain⟨r,hr,hi⟩:=h;obtain⟨m1,m2,m3⟩:=Qq hr hi;refine⟨⟨m3,?_⟩,⟨m2,u,rfl⟩,⟨m1,_,rfl⟩⟩;obtain⟨⟨l,e⟩,hp⟩:=hi;exact⟨r.1,da ok hr (p:=[x,y,z]) e,hp⟩
theorem bP.n3(G:bP R s0 ws){z y x K J I:Nat}(h:kL R s0 (QE R s0 x (Lf R [x,y,z])) (Lf R [x,y,z]) K)
  (h1:kL R s0 (QV R s0 y x) (Lf R [y,z]) J) (h2:kL R s0 (QV R s0 z y) (Lf R [z]) I):(dA R s0 ws [z,y,x]).length<=K*J*I:=by
 obtain⟨c,c1,c2⟩:=h;obtain⟨d,d1,d2⟩:=h1;obtain⟨f,f1,f2⟩:=h2;refine G.Az (λu=>(c u*J+d (x::u))*I+f (y::x::u))
  (λu hu=>fp (fp (c1 u (Ac G.ok hu).1) (d1 _ (Ac G.ok hu).2.1)) (f1 _ (Ac G.ok hu).2.2)) (λu v hu hv e=>?_)
 have ku:=Ac G.ok hu;have kv:=Ac G.ok hv;obtain⟨e1,e2⟩:=ef (f1 _ ku.2.2) (f1 _ kv.2.2) e;obtain⟨e3,e4⟩:=ef (d1 _ ku.2.1) (d1 _ kv.2.1) e1;exact⟨f2 _ _ ku.2.2 kv.2.2 e2,d2 _ _ ku.2.1 kv.2.1 e4,c2 _ _ ku.1 kv.1 e3⟩
theorem bP.h3(G:bP R s0 ws){z y x K J:Nat}(h:kL R s0 (QE R s0 x (Lf R [x,y,z])) (Lf R [x,y]) K)
  (h1:kL R s0 (QV R s0 y x) (Lf R [y]) J):(dA R s0 ws [z,y,x]).length<=K*J:=by
 obtain⟨c,c1,c2⟩:=h;obtain⟨d,d1,d2⟩:=h1;refine G.Az (λu=>c u*J+d (x::u)) (λu hu=>fp (c1 u (Ac G.ok hu).1) (d1 _ (Ac G.ok hu).2.1)) (λu v hu hv e=>?_);have ku:=Ac G.ok hu;have kv:=Ac G.ok hv;obtain⟨e1,e2⟩:=ef (d1 _ ku.2.1) (d1 _ kv.2.1) e;have a0:=c2 _ _ ku.1 kv.1 e1;have a1:=d2 _ _ ku.2.1 kv.2.1 e2;exact⟨λn _=>zW G.ok a1 a0 n,λn hn=>a1 n (fH (p:=[y]) (q:=[z]) hn),λn hn=>a0 n (fH (p:=[x,y]) (q:=[z]) hn)⟩
end
end Bd
set_option linter.unusedVariables false
namespace Bd
def sm(f:Nat->Nat):Nat:=f 0+f 1+f 2+f 3+f 4+f 5+f 6
theorem gv{f g:Nat->Nat}(h:∀i,i<7->f i<=g i):sm f<=sm g:=by
 have h0:=h 0 zo;have h1:=h 1 zo;have h2:=h 2 zo;have h3:=h 3 zo;have h4:=h 4 zo;have h5:=h 5 zo;have h6:=h 6 zo;simp only[sm];omega
theorem qv(f g:Nat->Nat):sm (λi=>f i+g i)=sm f+sm g:=by simp only[sm];omega
theorem j8(f:Nat->Nat)(c:Nat):sm (λi=>f i*c)=sm f*c:=by simp only[sm,Ss]
theorem gN(f:Nat->Nat):((List.range 7).map f).sum=sm f:=by
 have:List.range 7=[0,1,2,3,4,5,6]:=rfl;rw[this];simp only[JN,SQ,SG,U5,sm];omega
theorem tP(F:Nat->List (List Nat))(g:List Nat->Nat):(((List.range 7).flatMap F).map g).sum=sm λx=>((F x).map g).sum:=by
 have:List.range 7=[0,1,2,3,4,5,6]:=rfl;rw[this];simp only[Uv,UC,Si,SQ,U4,U5,sm];omega
theorem sC(g:List Nat->Nat):(Gx.map g).sum =
  sm (λz=>g [z])+(sm (λy=>sm λz=>g [z,y])+sm λx=>sm λy=>sm λz=>g [z,y,x]):=by
 unfold Gx O4 Oe OS;rw[Si,U4,Si,U4,Ti,gN,tP,tP];simp only[Ti,gN,tP,Function.comp_def]
def cn(R:List Ru)(p:List Nat):Nat:=R.countP λr=>p.isPrefixOf r.2
theorem di(R:List Ru)(p:List Nat):(Lf R p).length<=cn R p:=by
 have h:∀n∈Lf R p,n∈(R.filter λr=>p.isPrefixOf r.2).map (·.1):=by
  intro n hn;unfold Lf at hn;rw[RJ,Sv] at hn;obtain⟨_,r,hr,e⟩:=hn;simp only[IN,SK] at e;exact RI.2 ⟨r,RJ.2 ⟨hr,e.2⟩,e.1⟩
 have h1:=TV (dr (R:=R) p) h;rw[RL] at h1;unfold cn;rw[Sn];exact h1
theorem ei(R:List Ru)(p:List Nat):(Lf R p).length<=4:=by
 have:=TQ (λn=>R.any λr=>r.1==n&&p.isPrefixOf r.2) (List.range 4);rw[S0] at this;exact this
theorem jh(R:List Ru)(p q:List Nat):(Lf R (p++q)).length<=(Lf R p).length:=
 TV (dr _) λ_ h=>fH h
theorem GX(p l:List Nat):sm (λz=>if (p++[z]).isPrefixOf l then 1 else 0)<=if p.isPrefixOf l then 1 else 0:=by
 by_cases h:p.isPrefixOf l
 ·rw[By h];rw[Sr] at h;obtain⟨t,rfl⟩:=h;have e:∀z,(p++[z]).isPrefixOf (p++t)=[z].isPrefixOf t:=λz=>by
   rw[Ta,Sr,Sr,List.prefix_append_right_inj]
  simp only[e];cases t with
  | nil=>simp[sm]
  | cons a t=>
   simp only[List.isPrefixOf,UF,SK];unfold sm;by_cases h0:0=a
   ·subst h0;simp
   ·by_cases h1:1=a
    ·subst h1;simp
    ·by_cases h2:2=a
     ·subst h2;simp
     ·by_cases h3:3=a
      ·subst h3;simp
      ·by_cases h4:4=a
       ·subst h4;simp
       ·by_cases h5:5=a
        ·subst h5;simp
        ·by_cases h6:6=a
         ·subst h6;simp
         ·simp[h0,h1,h2,h3,h4,h5,h6]
 ·rw[AT h];have e:∀z,¬(p++[z]).isPrefixOf l:=λz hz=>h (by
   rw[Sr] at hz ⊢;exact(Up p [z]).trans hz)
  simp[e,sm]
theorem gB(R:List Ru)(p:List Nat):sm (λz=>cn R (p++[z]))<=cn R p:=by
 induction R with
 | nil=>simp[cn,sm]
 | cons r R ih=>
  have h:=GX p r.2;have e:∀q:List Nat,cn (r::R) q=cn R q+if q.isPrefixOf r.2 then 1 else 0:=λq=>by
   unfold cn;rw[Ue]
  simp only[e,qv];omega
def qN(n:Nat):Nat:=[0,2,7,19,23,27,38,42,46].getD n 0
def Ez(n:Nat):Nat:=[0,1,3,7,8,10,14,15,17].getD n 0
theorem D6{F:Nat->Nat}(hs:∀x,x<9->∀y,y<9->x+y<=8->F x+F y<=F (x+y)){a:Nat->Nat}(h:sm a<=8):sm (λi=>F (a i))<=F (sm a):=by
 simp only[sm] at h ⊢;have h1:=hs (a 0) zo (a 1) zo zo;have h2:=hs (a 0+a 1) zo (a 2) zo zo;have h3:=hs (a 0+a 1+a 2) zo (a 3) zo zo;have h4:=hs (a 0+a 1+a 2+a 3) zo (a 4) zo zo;have h5:=hs (a 0+a 1+a 2+a 3+a 4) zo (a 5) zo zo;have h6:=hs (a 0+a 1+a 2+a 3+a 4+a 5) zo (a 6) zo zo;omega
theorem Bw:∀x,x<9->∀y,y<9->x+y<=8->qN x+qN y<=qN (x+y):=by decide
theorem HW:∀x,x<9->∀y,y<9->x+y<=8->Ez x+Ez y<=Ez (x+y):=by decide
theorem yO:∀x,x<9->∀y,y<9->x<=y->qN x<=qN y:=by decide
theorem Gt:∀x,x<9->∀y,y<9->x<=y->Ez x<=Ez y:=by decide
theorem Iu:∀l,l<4->∀c,c<9->l<=c->2 ^ l-1<=Ez c:=by decide
theorem I5:∀b,b<4->∀s,s<9->b<=s->(2 ^ b-1)+2 ^ (b-1)*(if b=0 then 0 else s)<=qN s:=by decide
theorem half:∀b,b<5->∀t,t<5->t<=b->(2 ^ t-1)*2 ^ (b-t)<=2 ^ (b-1)*t:=by decide
section
variable {R:List Ru}{s0:Nat}{ws:List (List Nat)}
theorem vA(h:lT R)(p:List Nat):cn R p<=8:=AI List.countP_le_length h.qL
theorem Rc(G:bP R s0 ws)(h3:∀z,(Lf R [z]).length<=3)(x y:Nat) :
  (dA R s0 ws [y,x]).length+sm (λz=>(dA R s0 ws [z,y,x]).length)<=qN (cn R [x,y])*8:=by
 have hb:(Lf R [x,y]).length<=3:=AI (jh R [x] [y]) (h3 x);have hp:2 ^ (Lf R [y]).length<=8:=by
  have:=RS (n:=2) zo (h3 y);simpa using this
 have hs:=di R [x,y];have h8:=vA G.ok [x,y];have a2:(dA R s0 ws [y,x]).length<=(2 ^ (Lf R [x,y]).length-1)*8:=
  AI (G.n2 (j9 λw h=>h.2) (rQ _ _)) (SY _ hp)
 have a3:sm (λz=>(dA R s0 ws [z,y,x]).length)<=2 ^ ((Lf R [x,y]).length-1)*(if (Lf R [x,y]).length=0 then 0 else cn R [x,y])*8:=by
  have e1:∀z,z<7->(dA R s0 ws [z,y,x]).length<=(if (Lf R [x,y]).length=0 then 0 else cn R ([x,y]++[z]))*(2 ^ ((Lf R [x,y]).length-1)*8):=by
   intro z _;have k:=G.h3 (wk (dr [x,y,z]) (dr [x,y]) (λn hn=>fH (p:=[x,y]) (q:=[z]) hn) (λw h=>h.2)) (rQ _ (Lf R [y]));have m:(Lf R [x,y,z]).length<=(Lf R [x,y]).length:=jh R [x,y] [z];have t:=di R [x,y,z];have b4:=ei R [x,y];have hh:=half (Lf R [x,y]).length zo (Lf R [x,y,z]).length zo m;by_cases e0:(Lf R [x,y]).length=0
   ·have:(Lf R [x,y,z]).length=0:=by omega
    rw[this,Nat.pow_zero,TW,UN,UN] at k;exact AI k (R6 _)
   ·rw[AT e0];refine AI k ?_;refine AI (Sl hh hp) ?_;rw[Tj (2 ^ _) (Lf R [x,y,z]).length,Ts];exact OF _ t
  refine AI (gv e1) ?_;rw[j8];by_cases e0:(Lf R [x,y]).length=0
  ·simp[e0,sm]
  ·simp only[AT e0];have:=gB R [x,y];rw[Tj (2 ^ _) (cn R [x,y]),Ts];exact OF _ this
 have:=I5 (Lf R [x,y]).length zo (cn R [x,y]) zo hs;have m2:=OF 8 this;rw[Ss] at m2;omega
theorem OX(G:bP R s0 ws)(h3:∀z,(Lf R [z]).length<=3):ws.length<=385:=by
 have h:=pb G.ok G.live;rw[sC] at h;have c1:sm (λx=>cn R [x])<=8:=AI (gB R []) (vA G.ok []);have a1:sm (λz=>(dA R s0 ws [z]).length)<=17:=by
  refine AI (gv (g:=λz=>Ez (cn R [z])) λz _=>?_) (AI (D6 HW c1) ?_)
  ·exact AI (G.n1 (j9 λw h=>h.2)) (Iu _ (Uw (h3 z)) _ (Uw (vA G.ok _)) (di R [z]))
  ·exact Gt _ zo 8 zo c1
 have a2:sm (λy=>sm λz=>(dA R s0 ws [z,y]).length)+sm (λx=>sm λy=>sm λz=>(dA R s0 ws [z,y,x]).length)<=46*8:=by
  rw[<-qv];refine AI (gv (g:=λx=>qN (cn R [x])*8) λx _=>?_) ?_
  ·rw[<-qv];refine AI (gv (g:=λy=>qN (cn R [x,y])*8) λy _=>Rc G h3 x y) ?_;rw[j8];have k:=gB R [x];have k8:=vA G.ok [x];refine OF _ (AI (D6 Bw (a:=λy=>cn R [x,y]) (AI k k8)) (yO _ ?_ _ ?_ k))
   ·exact Uw (AI k k8)
   ·exact Uw k8
  ·rw[j8];exact OF _ (AI (D6 Bw c1) (yO _ zo 8 zo c1))
 omega
end
end Bd
set_option linter.unusedVariables false
namespace Bd
section
variable {R:List Ru}{s0:Nat}{ws:List (List Nat)}
def Pr(R:List Ru)(M:Nat):List Nat:=(Lf R [3+M]).filter λn=>n≠M
theorem JW{M n:Nat}(h:n∈Lf R [3+M]){w:List Nat}(hp:Pd R s0 w n):Pd R s0 w M:=by
 unfold Lf at h;rw[RJ,Sv] at h;obtain⟨_,r,hr,e⟩:=h;simp only[IN,SK,Sr] at e;obtain⟨e1,l,e2⟩:=e;subst e1;exact .xG hp hr e2.symm
def Ot(R:List Ru)(M:Nat):List Nat:=((List.range 4).filter λn=>n≠M).filter λn=>n∉Pr R M
theorem Jk(M:Nat):(Pr R M).Nodup:=Sx _ (dr _)
theorem EL{M:Nat}(hM:M<4):(Ot R M).length+(Pr R M).length=3:=by
 have h1:=TL (λn=>decide (n∈Pr R M)) (l:=(List.range 4).filter λn=>n≠M);rw[Sn,Sn] at h1;have h2:(((List.range 4).filter λn=>n≠M).filter λn=>decide (n∈Pr R M)).length=(Pr R M).length:=by
  apply List.Perm.length_eq;apply (Tt (Sx _ (Sx _ UA)) (Jk M)).2;intro a;rw[RJ,RJ,RQ];simp only[Su];refine⟨λh=>h.2,λh=>⟨⟨?_,?_⟩,h⟩⟩
  ·unfold Pr at h;rw[RJ] at h;exact Jj h.1
  ·unfold Pr at h;rw[RJ] at h;simpa using h.2
 have h3:((List.range 4).filter λn=>n≠M).length=3:=by
  have:M=0\/M=1\/M=2\/M=3:=by omega
  rcases this with rfl | rfl | rfl | rfl<;>decide
 unfold Ot;simp only[decide_not,Bool.decide_eq_true] at h1 ⊢;simp only[decide_not] at h2 h3;omega
theorem N5{p:Prop} (h:p:=by
 have e:(if Pd R s0 w M then 2 ^ (Ot R M).length+bits (Pd R s0 w) (Pr R M++Ot R M) else bits (Pd R s0 w) (Ot R M)) =
  (if Pd R s0 w' M then 2 ^ (Ot R M).length+bits (Pd R s0 w') (Pr R M++Ot R M) else bits (Pd R s0 w') (Ot R M)):=e
 have b2:=cR (Pd R s0 w) (Ot R M);have b3:=cR (Pd R s0 w') (Ot R M);by_cases h1:Pd R s0 w M
 ·rw[By h1] at e;by_cases h2:Pd R s0 w' M
  ·rw[By h2] at e;have e2:=eU (show bits (Pd R s0 w) (Pr R M++Ot R M)=bits (Pd R s0 w') (Pr R M++Ot R M) by omega);rcases hmem n (hL n hn) with rfl | h | h
   ·exact⟨λ_=>h2,λ_=>h1⟩
   ·exact e2 n (Sw _ h)
   ·exact e2 n (SC _ h)
  ·rw[AT h2] at e;omega
 ·rw[AT h1] at e;by_cases h2:Pd R s0 w' M
  ·rw[By h2] at e;omega
  ·rw[AT h2] at e;have e2:=eU e;rcases hmem n (hL n hn) with rfl | h | h
   ·exact⟨λh=>absurd h h1,λh=>absurd h h2⟩
   ·exact⟨λk=>absurd (hpr _ _ h k) h1,λk=>absurd (hpr _ _ h k) h2⟩
   ·exact e2 n h):p:=h
theorem wz(Q:List Nat->Prop){M:Nat}(hM:M<4){L:List Nat}(hL:∀n∈L,n<4):kL R s0 Q L (8+2 ^ (Ot R M).length):=by
 classical
 have hl:=EL (R:=R) hM;have hmem:∀n,n<4->n=M\/n∈Pr R M\/n∈Ot R M:=by
  intro n hn;by_cases h1:n=M
  ·exact .inl h1
  ·by_cases h2:n∈Pr R M
   ·exact .inr (.inl h2)
   ·refine .inr (.inr ?_);unfold Ot;rw[RJ,RJ,RQ];exact⟨⟨hn,by simpa using h1⟩,by simpa using h2⟩
 have hpr:∀w n,n∈Pr R M->Pd R s0 w n->Pd R s0 w M:=λw n h hp=>by
  unfold Pr at h;rw[RJ] at h;exact JW h.1 hp
 refine⟨λw=>if Pd R s0 w M then 2 ^ (Ot R M).length+bits (Pd R s0 w) (Pr R M++Ot R M) else bits (Pd R s0 w) (Ot R M),λw _=>?_,λw w' _ _ e n hn=>?_⟩
 ·show (if Pd R s0 w M then 2 ^ (Ot R M).length+bits (Pd R s0 w) (Pr R M++Ot R M) else bits (Pd R s0 w) (Ot R M))<8+2 ^ (Ot R M).length;have b1:=cR (Pd R s0 w) (Pr R M++Ot R M);have b2:=cR (Pd R s0 w) (Ot R M);rw[RP] at b1;have e3:(Pr R M).length+(Ot R M).length=3:=by omega
  rw[e3] at b1;by_cases h:Pd R s0 w M
  ·rw[By h];omega
  ·rw[AT h];omega
 ·exact N5
theorem uf{Q:List Nat->Prop}{M:Nat}(hM:M<4){L:List Nat}(hL:∀n∈L,n<4)(hq:∀w,Q w->∃n,n<4/\Pd R s0 w n) :
  kL R s0 Q L (7+2 ^ (Ot R M).length):=by
 classical
 have key:∃c:List Nat->Nat,(∀w,Q w->0<c w/\c w<8+2 ^ (Ot R M).length)/\∀w w',Q w->Q w'->c w=c w'->∀n∈L,(Pd R s0 w n↔Pd R s0 w' n):=by
  have hl:=EL (R:=R) hM;have hmem:∀n,n<4->n=M\/n∈Pr R M\/n∈Ot R M:=by
   intro n hn;by_cases h1:n=M
   ·exact .inl h1
   ·by_cases h2:n∈Pr R M
    ·exact .inr (.inl h2)
    ·refine .inr (.inr ?_);unfold Ot;rw[RJ,RJ,RQ];exact⟨⟨hn,by simpa using h1⟩,by simpa using h2⟩
  have hpr:∀w n,n∈Pr R M->Pd R s0 w n->Pd R s0 w M:=λw n h hp=>by
   unfold Pr at h;rw[RJ] at h;exact JW h.1 hp
  refine⟨λw=>if Pd R s0 w M then 2 ^ (Ot R M).length+bits (Pd R s0 w) (Pr R M++Ot R M) else bits (Pd R s0 w) (Ot R M),λw hw=>?_,λw w' _ _ e n hn=>?_⟩
  ·show 0<(if Pd R s0 w M then 2 ^ (Ot R M).length+bits (Pd R s0 w) (Pr R M++Ot R M) else bits (Pd R s0 w) (Ot R M))/\(if Pd R s0 w M then 2 ^ (Ot R M).length+bits (Pd R s0 w) (Pr R M++Ot R M) else bits (Pd R s0 w) (Ot R M))<8+2 ^ (Ot R M).length;have b1:=cR (Pd R s0 w) (Pr R M++Ot R M);have b2:=cR (Pd R s0 w) (Ot R M);have b0:0<2 ^ (Ot R M).length:=UG zo;rw[RP] at b1;have e3:(Pr R M).length+(Ot R M).length=3:=by omega
   rw[e3] at b1;by_cases h:Pd R s0 w M
   ·rw[By h];omega
   ·rw[AT h];obtain⟨n,h1,h2⟩:=hq w hw;rcases hmem n h1 with rfl | k | k
    ·exact absurd h2 h
    ·exact absurd (hpr _ _ k h2) h
    ·have:=ij (P:=Pd R s0 w) k h2;omega
  ·exact N5
 obtain⟨c,c1,c2⟩:=key;refine⟨λw=>c w-1,λw hw=>?_,λw w' hw hw' e n hn=>c2 w w' hw hw' ?_ n hn⟩
 ·have:=c1 w hw;show c w-1<_;omega
 ·have a:=c1 w hw;have b:=c1 w' hw';have e:c w-1=c w'-1:=e;omega
theorem wW{Q:List Nat->Prop}{M:Nat}(hq:∀w,Q w->Mv R s0 (3+M) w){L:List Nat}(hL:∀n∈L,n∈Lf R [3+M]):kL R s0 Q L (2 ^ (Pr R M).length):=by
 refine⟨λw=>bits (Pd R s0 w) (Pr R M),λw _=>cR _ _,λw w' hw hw' e n hn=>?_⟩;by_cases h:n=M
 ·subst h;exact⟨λ_=>hq w' hw' _ rfl,λ_=>hq w hw _ rfl⟩
 ·refine eU e n ?_;unfold Pr;rw[RJ];exact⟨hL n hn,by simpa using h⟩
def xO(R:List Ru)(x y:Nat):List Ru:=R.filter λr=>[x].isPrefixOf r.2&&!([x,y].isPrefixOf r.2)
def yb(R:List Ru)(x:Nat):List Ru:=R.filter λr=>[x].isPrefixOf r.2.tail
def JO(R:List Ru)(s0:Nat)(w:List Nat)(r:Ru):Prop:=Pd R s0 w.tail r.1
def Gw(R:List Ru)(s0:Nat)(w:List Nat)(r:Ru):Prop:=match w with
 | _::y::u=>(∃l,r.2=y::l)/\Pd R s0 u r.1
 | _=>False
theorem Fa{x y:Nat}{w w':List Nat}(hw:∃u,w=x::u)(hw':∃u,w'=x::u)(hm:Mv R s0 y w')
  (h1:∀r∈xO R x y,JO R s0 w r->JO R s0 w' r) (h2:∀r∈yb R x,Gw R s0 w r->Gw R s0 w' r):∀m,Pd R s0 w m->Pd R s0 w' m:=by
 obtain⟨u,rfl⟩:=hw;obtain⟨v,rfl⟩:=hw';intro m h;generalize e:x::u=W at h
 induction h with
 | start=>cases e
 | @one z m w l r hr e2 hp _=>
  simp only[R1] at e;obtain⟨rfl,rfl⟩:=e;by_cases hy:y=3+m
  ·exact hm m hy
  ·have:r∈xO R x y:=by
    unfold xO;rw[RJ,e2];refine⟨hr,?_⟩;simp[List.isPrefixOf,hy]
   exact .one hr e2 (h1 r this hp)
 | @two yy z m w l r hr e2 hp _=>
  simp only[R1] at e;obtain⟨rfl,rfl⟩:=e;have:r∈yb R x:=by
   unfold yb;rw[RJ,e2];exact⟨hr,by simp[List.isPrefixOf]⟩
  have k:=h2 r this ⟨⟨_,e2⟩,hp⟩
  match v,k with
  | y'::v,⟨⟨l',e3⟩,hp'⟩=>
   rw[e2] at e3;simp only[R1] at e3;obtain⟨rfl,_⟩:=e3;exact .two hr e2 hp'
 | xG hp hr e2 ih=>exact .xG (ih e) hr e2
theorem Ip(x y:Nat)(L:List Nat):kL R s0 (QV R s0 y x) L (2 ^ ((xO R x y).length+(yb R x).length)):=by
 refine⟨λw=>bits (JO R s0 w) (xO R x y)*2 ^ (yb R x).length+bits (Gw R s0 w) (yb R x),λw _=>?_,λw w' hw hw' e n _=>?_⟩
 ·rw[TI];exact fp (cR _ _) (cR _ _)
 ·obtain⟨e1,e2⟩:=ef (cR _ _) (cR _ _) e;have k1:=eU e1;have k2:=eU e2;exact⟨Fa hw.2 hw'.2 hw'.1 (λr hr=>(k1 r hr).1) (λr hr=>(k2 r hr).1) n,Fa hw'.2 hw.2 hw.1 (λr hr=>(k1 r hr).2) (λr hr=>(k2 r hr).2) n⟩
end
end Bd
set_option linter.unusedVariables false
namespace Bd
section
variable {R:List Ru}{s0:Nat}{ws:List (List Nat)}
theorem It{α κ:Type}[DecidableEq κ](c:α->κ):∀(C:List κ),C.Nodup->∀(l:List α),
  (C.map λk=>(l.filter λa=>c a=k).length).sum<=(l.filter λa=>c a∈C).length:=by
 intro C
 induction C with
 | nil=>intro _ l;simp
 | cons k C ih=>
  intro hC l;have h:=ih (SM.1 hC).2 l;have hk:=(SM.1 hC).1;simp only[JN,SG];have e1:(l.filter λa=>c a∈k::C).length=(l.filter λa=>c a=k).length+(l.filter λa=>c a∈C).length:=by
   clear h ih
   induction l with
   | nil=>simp
   | cons a l ih=>
    simp only[UE];by_cases h1:c a=k
    ·have h2:c a∉C:=λh=>hk (h1▸h);simp[h1,hk] at ih ⊢;omega
    ·by_cases h2:c a∈C
     ·simp[h1,h2] at ih ⊢;omega
     ·simp[h1,h2] at ih ⊢;omega
  omega
theorem FB(ok:lT R){y:Nat}{u v:List Nat}(h1:∀n∈Lf R [y],Pd R s0 u n->Pd R s0 v n)(hu:∀r∈R,¬I2 R s0 (y::u) r) :
  ∀m,Pd R s0 (y::u) m->Pd R s0 (y::v) m:=by
 intro m h;generalize e:y::u=W at h
 induction h with
 | start=>cases e
 | one hr e2 hp _=>
  simp only[R1] at e;obtain⟨rfl,rfl⟩:=e;exact .one hr e2 (h1 _ (da ok hr (p:=[y]) e2) hp)
 | two hr e2 hp _=>
  simp only[R1] at e;obtain⟨rfl,rfl⟩:=e;exact absurd ⟨⟨_,e2⟩,hp⟩ (hu _ hr)
 | xG hp hr e2 ih=>exact .xG (ih e) hr e2
theorem JM{z y x:Nat}{u:List Nat}{r:Ru}(h:I3 R s0 (z::y::x::u) r):I2 R s0 (y::x::u) r:=by
 obtain⟨⟨l,e⟩,hp⟩:=h;exact⟨⟨_,e⟩,hp⟩
theorem GG(ok:lT R){z y:Nat}{u v:List Nat}(h1:∀n∈Lf R [y],(Pd R s0 u n↔Pd R s0 v n))(hu:∀r∈R,¬I2 R s0 (y::u) r)
  (hv:∀r∈R,¬I2 R s0 (y::v) r):pB R s0 (z::y::u) (z::y::v):=by
 refine HY ok (λn _=>⟨FB ok (λn hn=>(h1 n hn).1) hu n,FB ok (λn hn=>(h1 n hn).2) hv n⟩) (λn hn=>h1 n (fH (p:=[y]) (q:=[z]) hn)) ?_ ?_
 ·intro r hr h
  match u,h with
  | x::u,h=>exact hu r hr (JM h)
 ·intro r hr h
  match v,h with
  | x::v,h=>exact hv r hr (JM h)
open Classical in
noncomputable def ahead(R:List Ru)(s0:Nat)(w:List Nat):List Nat:=
 if ∃r∈R,I2 R s0 w.tail r then w.tail.tail.take 1 else []
def mK:List (List Nat):=[]::(List.range 7).map λx=>[x]
noncomputable def Ft(R:List Ru)(s0:Nat)(ws:List (List Nat))(z y:Nat):List (List Nat):=
 ws.filter λw=>w.take 2==[z,y]&&HC R s0 w != 1
theorem qY{z y:Nat}{w:List Nat}(h:w∈Ft R s0 ws z y):w∈ws/\(∃u,w=z::y::u)/\((∃r∈R,I2 R s0 w r)\/∃r∈R,I3 R s0 w r):=by
 unfold Ft at h;rw[RJ,IN,SK,bne_iff_ne] at h;obtain⟨h0,h1,h2⟩:=h;refine⟨h0,?_,?_⟩
 ·match w,h1 with
  | [],h1=>cases h1
  | [a],h1=>cases h1
  | a::b::u,h1=>
   simp only[List.take,R1] at h1;obtain⟨rfl,rfl,_⟩:=h1;exact⟨u,rfl⟩
 ·rcases jY (R:=R) (s0:=s0) w with e | e | e
  ·exact absurd e h2
  ·exact .inl (LV.1 e).2
  ·exact .inr (Hx.1 e)
theorem Jz(ok:lT R){z y:Nat}{u:List Nat}(h:(∃r∈R,I2 R s0 (z::y::u) r)\/∃r∈R,I3 R s0 (z::y::u) r):Mv R s0 y u:=by
 rcases h with ⟨r,hr,hi⟩ | ⟨r,hr,hi⟩
 ·exact(Pe hr hi).2
 ·match u,hi with
  | x::u,hi=>exact(Qq hr hi).2.1
theorem Ov{p:Prop} (h:p:=by
 obtain⟨c,c1,c2⟩:=h1;have key:∀w∈(Ft R s0 ws z y).filter (λw=>ahead R s0 w=[]),∃u,w=z::y::u/\QE R s0 y (Lf R [y]) u/\∀r∈R,¬I2 R s0 (y::u) r:=by
  intro w hw;rw[RJ] at hw;obtain⟨hw,ha⟩:=hw;obtain⟨_,⟨u,rfl⟩,hi⟩:=qY hw;have hno:∀r∈R,¬I2 R s0 (y::u) r:=by
   intro r hr hi2;have:ahead R s0 (z::y::u)=[]:=by simpa using ha
   unfold ahead at this;rw[By ⟨r,hr,hi2⟩] at this
   match u,hi2 with
   | x::u,_=>simp at this
  refine⟨u,rfl,⟨Jz G.ok hi,?_⟩,hno⟩;rcases hi with ⟨r,hr,⟨⟨l,e⟩,hp⟩⟩ | ⟨r,hr,hi⟩
  ·exact⟨r.1,da G.ok hr (p:=[y]) e,hp⟩
  ·match u,hi with
   | x::u,hi=>exact absurd (JM hi) (hno r hr)
 refine nS (P:=pB R s0) (λw=>c w.tail.tail) K _ (Sx _ hd) (λw hw=>?_) (λa ha b hb e=>?_)
 ·obtain⟨u,rfl,hq,_⟩:=key w hw;exact c1 u hq
 ·obtain⟨u,rfl,hq,hn⟩:=key a ha;obtain⟨v,rfl,hq',hn'⟩:=key b hb;exact GG G.ok (c2 u v hq hq' e) hn hn'):p:=h
theorem bP.types(G:bP R s0 ws)(z y:Nat){K:Nat}{A B:Nat->Nat}(h1:kL R s0 (QE R s0 y (Lf R [y])) (Lf R [y]) K)
  (h2:∀x,x<7->kL R s0 (QE R s0 x (Lf R [x,y])) (Lf R [x,y]) (A x)) (h3:∀x,x<7->kL R s0 (QV R s0 y x) (Lf R [y]) (B x)) :
  (Ft R s0 ws z y).length<=K+sm λx=>A x*B x:=by
 have hp:=parts (ahead R s0) mK (Ft R s0 ws z y) (λw hw=>by
  obtain⟨_,⟨u,rfl⟩,_⟩:=qY hw;unfold ahead mK;split
  ·rename_i h;obtain⟨r,hr,hi⟩:=h
   match u,hi with
   | x::u,⟨⟨l,e⟩,_⟩=>
    exact If _ (RI.2 ⟨x,RQ.2 (G.ok.sym r hr x (by rw[e];simp)),by simp⟩)
  ·exact RR ..)
 refine AI hp ?_;unfold mK;rw[JN,SG,Ti,gN];have hd:(Ft R s0 ws z y).Pairwise λa b=>¬pB R s0 a b:=Sx _ G.diff;refine RU ?_ (gv λx hx=>?_)
 ·exact Ov
 ·obtain⟨c,c1,c2⟩:=h2 x hx;obtain⟨d,d1,d2⟩:=h3 x hx;have key:∀w∈(Ft R s0 ws z y).filter (λw=>ahead R s0 w=[x]),∃u,w=z::y::x::u/\QE R s0 x (Lf R [x,y]) u/\QV R s0 y x (x::u):=by
   intro w hw;rw[RJ] at hw;obtain⟨hw,ha⟩:=hw;obtain⟨_,⟨u,rfl⟩,hi⟩:=qY hw;have ha:ahead R s0 (z::y::u)=[x]:=by simpa using ha
   have hm:=Jz G.ok hi;unfold ahead at ha;split at ha
   ·rename_i h;obtain⟨r,hr,hi2⟩:=h
    match u,hi2,hm with
    | x'::u,hi2,hm=>
     simp only[List.tail_cons,List.take,R1,UP] at ha;subst ha;refine⟨u,rfl,⟨(Pe hr hi2).2,?_⟩,hm,u,rfl⟩;obtain⟨⟨l,e⟩,hp⟩:=hi2;exact⟨r.1,da G.ok hr (p:=[x',y]) e,hp⟩
   ·cases ha
  refine nS (P:=pB R s0) (λw=>c w.tail.tail.tail*B x+d w.tail.tail) (A x*B x) _ (Sx _ hd) (λw hw=>?_) (λa ha b hb e=>?_)
  ·obtain⟨u,rfl,hq,hv⟩:=key w hw;exact fp (c1 u hq) (d1 _ hv)
  ·obtain⟨u,rfl,hq,hv⟩:=key a ha;obtain⟨v,rfl,hq',hv'⟩:=key b hb;obtain⟨e1,e2⟩:=ef (d1 _ hv) (d1 _ hv') e;have a0:=c2 u v hq hq' e1;have a1:=d2 _ _ hv hv' e2;exact Kj G.ok (λn _=>zW G.ok a1 a0 n) (λn hn=>a1 n (fH (p:=[y]) (q:=[z]) hn)) (λn hn=>a0 n (fH (p:=[x,y]) (q:=[z]) hn))
theorem Fq(ok:lT R)(z y:Nat):(dA R s0 ws [z,y]).length+sm (λx=>(dA R s0 ws [z,y,x]).length)<=(Ft R s0 ws z y).length:=by
 have hC:([z,y]::(List.range 7).map λx=>[z,y,x]).Nodup:=by
  have:List.range 7=[0,1,2,3,4,5,6]:=rfl;rw[this];simp
 have h:=It (ctx R s0) _ hC ws;rw[JN,SG,Ti,gN] at h;refine AI h ?_;unfold Ft;rw[<-Sn,<-Sn];apply T9;intro w _ hw;simp only[R0,RI,RQ,Su] at hw;rw[IN,SK,bne_iff_ne];unfold ctx at hw;rcases jY (R:=R) (s0:=s0) w with e | e | e
 ·rw[e] at hw;rcases hw with h | ⟨x,_,h⟩
  ·have:=congrArg List.length h;simp at this;omega
  ·have:=congrArg List.length h;simp at this;omega
 ·rw[e] at hw ⊢;rcases hw with h | ⟨x,_,h⟩
  ·exact⟨h,by omega⟩
  ·have:=congrArg List.length h;simp at this;omega
 ·rw[e] at hw ⊢;rcases hw with h | ⟨x,_,h⟩
  ·have h2:=(Hx.1 e);obtain⟨r,hr,hi⟩:=h2
   match w,hi with
   | a::b::c::u,_=>simp at h
  ·refine⟨?_,by omega⟩;have:=congrArg (List.take 2) h;rw[List.take_take] at this;simpa using this.symm
end
end Bd
set_option linter.unusedVariables false
namespace Bd
section
variable {R:List Ru}{s0:Nat}{ws:List (List Nat)}
def dJ(R:List Ru)(s0:Nat)(Q:List Nat->Prop)(φ:List Nat->List Nat)(L:List Nat)(K:Nat):Prop:=
 ∃c:List Nat->Nat,(∀u,Q u->c u<K)/\∀u v,Q u->Q v->c u=c v->∀n∈L,(Pd R s0 (φ u) n↔Pd R s0 (φ v) n)
theorem dJ.mono{Q:List Nat->Prop}{φ:List Nat->List Nat}{L:List Nat}{K J:Nat}(h:dJ R s0 Q φ L K)(hk:K<=J):dJ R s0 Q φ L J:=by
 obtain⟨c,h1,h2⟩:=h;exact⟨c,λw hw=>SH (h1 w hw) hk,h2⟩
theorem dJ.inf{Q:List Nat->Prop}{φ:List Nat->List Nat}{L:List Nat}{K J:Nat}(h:dJ R s0 Q φ L K)(h':dJ R s0 Q φ L J):dJ R s0 Q φ L (min K J):=by
 rcases TZ K J with e | e
 ·rw[SN e];exact h
 ·rw[To e];exact h'
theorem kL.at{Q Q':List Nat->Prop}{φ:List Nat->List Nat}{L:List Nat}{K:Nat}(h:kL R s0 Q' L K)(hq:∀u,Q u->Q' (φ u)):dJ R s0 Q φ L K:=by
 obtain⟨c,h1,h2⟩:=h;exact⟨λu=>c (φ u),λu hu=>h1 _ (hq u hu),λu v hu hv e=>h2 _ _ (hq u hu) (hq v hv) e⟩
theorem eE(Q:List Nat->Prop)(φ:List Nat->List Nat)(L:List Nat):dJ R s0 Q φ L (2 ^ L.length):=
 (rQ (λ_=>True) L).at λ_ _=>trivial
theorem kH{Q:List Nat->Prop}{φ:List Nat->List Nat}{L:List Nat}(h:∀u,Q u->Ne R s0 L (φ u)):dJ R s0 Q φ L (2 ^ L.length-1):=
 (j9 (Q:=λw=>Ne R s0 L w) λ_ h=>h).at h
theorem oU{Q:List Nat->Prop}{φ:List Nat->List Nat}{L M:List Nat}(hM:M.Nodup)(hL:L.Nodup)(hs:∀n∈M,n∈L)(h:∀u,Q u->Ne R s0 M (φ u)) :
  dJ R s0 Q φ L ((2 ^ M.length-1)*2 ^ (L.length-M.length)):=
 (wk (Q:=λw=>Ne R s0 M w) hM hL hs λ_ h=>h).at h
def Ew(s:Nat):Bool:=Nat.ble 3 s
def GP(R:List Ru)(y:Nat):List Ru:=R.filter λr=>match r.2 with | a::b::_=>a==y&&Ew b | _=>false
def Gk(R:List Ru)(x y:Nat):List Ru:=R.filter λr=>match r.2 with | a::b::c::_=>a==x&&(b==y&&Ew c) | _=>false
def GC(R:List Ru)(y:Nat):List Ru:=R.filter λr=>match r.2 with | _::b::c::_=>b==y&&Ew c | _=>false
theorem IB(m:Nat):Ew (3+m)=true:=by unfold Ew;rw[Th];omega
theorem JZ{y m:Nat}{l:List Nat}{r:Ru}(h:r∈R)(e:r.2=y::(3+m)::l):r∈GP R y:=by
 unfold GP;rw[RJ,e];exact⟨h,by simp[IB]⟩
theorem MT{x y m:Nat}{l:List Nat}{r:Ru}(h:r∈R)(e:r.2=x::y::(3+m)::l):r∈Gk R x y:=by
 unfold Gk;rw[RJ,e];exact⟨h,by simp[IB]⟩
theorem MJ{x y m:Nat}{l:List Nat}{r:Ru}(h:r∈R)(e:r.2=x::y::(3+m)::l):r∈GC R y:=by
 unfold GC;rw[RJ,e];exact⟨h,by simp[IB]⟩
theorem FO{y x:Nat}{u v:List Nat}(hF:∀r∈GP R y,Pd R s0 (x::u) r.1->Pd R s0 (x::v) r.1)
  (hG:∀r∈Gk R x y,Pd R s0 u r.1->Pd R s0 v r.1):∀m,Pd R s0 (y::x::u) m->Pd R s0 (y::x::v) m:=by
 intro m h;generalize e:y::x::u=W at h
 induction h with
 | start=>cases e
 | one hr e2 hp _=>
  simp only[R1] at e;obtain⟨rfl,rfl⟩:=e;exact .one hr e2 (hF _ (JZ hr e2) hp)
 | two hr e2 hp _=>
  simp only[R1] at e;obtain⟨rfl,rfl,rfl⟩:=e;exact .two hr e2 (hG _ (MT hr e2) hp)
 | xG hp hr e2 ih=>exact .xG (ih e) hr e2
theorem sR(Q:List Nat->Prop)(x y:Nat)(L:List Nat):dJ R s0 Q (λu=>y::x::u) L (2 ^ ((GP R y).length+(Gk R x y).length)):=by
 refine⟨λu=>bits (λr=>Pd R s0 (x::u) r.1) (GP R y)*2 ^ (Gk R x y).length+bits (λr=>Pd R s0 u r.1) (Gk R x y),λu _=>?_,λu v _ _ e n _=>?_⟩
 ·rw[TI];exact fp (cR _ _) (cR _ _)
 ·obtain⟨e1,e2⟩:=ef (cR _ _) (cR _ _) e;have k1:=eU e1;have k2:=eU e2;exact⟨FO (λr hr=>(k1 r hr).1) (λr hr=>(k2 r hr).1) n,FO (λr hr=>(k1 r hr).2) (λr hr=>(k2 r hr).2) n⟩
theorem BI{x:Nat}{u v:List Nat}(hF:∀r∈GP R x,Pd R s0 v r.1)
  (hG:∀r∈GC R x,Gw R s0 (x::u) r->Gw R s0 (x::v) r):∀m,Pd R s0 (x::u) m->Pd R s0 (x::v) m:=by
 intro m h;generalize e:x::u=W at h
 induction h with
 | start=>cases e
 | one hr e2 hp _=>
  simp only[R1] at e;obtain⟨rfl,rfl⟩:=e;exact .one hr e2 (hF _ (JZ hr e2))
 | two hr e2 hp _=>
  simp only[R1] at e;obtain⟨rfl,rfl⟩:=e;have k:=hG _ (MJ hr e2) ⟨⟨_,e2⟩,hp⟩
  match v,k with
  | y'::v,⟨⟨l',e3⟩,hp'⟩=>
   rw[e2] at e3;simp only[R1] at e3;obtain⟨rfl,_⟩:=e3;exact .two hr e2 hp'
 | xG hp hr e2 ih=>exact .xG (ih e) hr e2
theorem xA{Q:List Nat->Prop}{x:Nat}(hF:∀u,Q u->∀r∈GP R x,Pd R s0 u r.1)(L:List Nat):dJ R s0 Q (λu=>x::u) L (2 ^ (GC R x).length):=by
 refine⟨λu=>bits (Gw R s0 (x::u)) (GC R x),λu _=>cR _ _,λu v hu hv e n _=>?_⟩;have k:=eU e;exact⟨BI (hF v hv) (λr hr=>(k r hr).1) n,BI (hF u hu) (λr hr=>(k r hr).2) n⟩
def Dm(y M:Nat)(r:Ru):Bool:=match r.2 with | a::b::_=>a==y&&b==3+M | _=>false
def NH(y M:Nat)(r:Ru):Bool:=match r.2 with | _::b::c::_=>b==y&&c==3+M | _=>false
def tv(y M:Nat)(r:Ru):Bool:=match r.2 with | a::b::c::_=>!Ew a&&(b==y&&c==3+M) | _=>false
def Sd(R:List Ru)(y:Nat):List Nat:=(List.range 4).filter λM=>R.any λr=>Dm y M r||NH y M r
def lK(R:List Ru)(y:Nat):List Nat:=(List.range 4).filter λM=>R.any λr=>Dm y M r||tv y M r
theorem E0(ok:lT R){y n:Nat}{u:List Nat}(h:Pd R s0 (y::u) n):∃m∈Sd R y,Pd R s0 (y::u) m/\∀w,Pd R s0 w m->Pd R s0 w n:=by
 generalize e:y::u=W at h
 induction h with
 | start=>cases e
 | @one z m w l r hr e2 hp _=>
  simp only[R1] at e;obtain⟨rfl,rfl⟩:=e;refine⟨m,?_,.one hr e2 hp,λw h=>h⟩;unfold Sd;rw[RJ,RQ];have:=ok.sym r hr (3+m) (by rw[e2];simp);refine⟨by omega,?_⟩;rw[Sv];exact⟨r,hr,by unfold Dm;rw[e2];simp⟩
 | @two y' z m w l r hr e2 hp _=>
  simp only[R1] at e;obtain⟨rfl,rfl⟩:=e;refine⟨m,?_,.two hr e2 hp,λw h=>h⟩;unfold Sd;rw[RJ,RQ];have:=ok.sym r hr (3+m) (by rw[e2];simp);refine⟨by omega,?_⟩;rw[Sv];exact⟨r,hr,by unfold NH;rw[e2];simp⟩
 | xG hp hr e2 ih=>
  obtain⟨m,h1,h2,h3⟩:=ih e;exact⟨m,h1,h2,λw h=>.xG (h3 w h) hr e2⟩
theorem Ja(ok:lT R){y x n:Nat}(hx:x<3){u:List Nat}(h:Pd R s0 (y::x::u) n):∃m∈lK R y,Pd R s0 (y::x::u) m/\∀w,Pd R s0 w m->Pd R s0 w n:=by
 generalize e:y::x::u=W at h
 induction h with
 | start=>cases e
 | @one z m w l r hr e2 hp _=>
  simp only[R1] at e;obtain⟨rfl,rfl⟩:=e;refine⟨m,?_,.one hr e2 hp,λw h=>h⟩;unfold lK;rw[RJ,RQ];have:=ok.sym r hr (3+m) (by rw[e2];simp);refine⟨by omega,?_⟩;rw[Sv];exact⟨r,hr,by unfold Dm;rw[e2];simp⟩
 | @two y' z m w l r hr e2 hp _=>
  simp only[R1] at e;obtain⟨rfl,rfl,rfl⟩:=e;refine⟨m,?_,.two hr e2 hp,λw h=>h⟩;unfold lK;rw[RJ,RQ];have:=ok.sym r hr (3+m) (by rw[e2];simp);refine⟨by omega,?_⟩;rw[Sv];refine⟨r,hr,?_⟩;unfold tv;rw[e2];have:Ew x=false:=by
   unfold Ew;rw[SV];intro h;rw[Th] at h;omega
  simp[this]
 | xG hp hr e2 ih=>
  obtain⟨m,h1,h2,h3⟩:=ih e;exact⟨m,h1,h2,λw h=>.xG (h3 w h) hr e2⟩
theorem zF{Q:List Nat->Prop}{φ:List Nat->List Nat}(T L:List Nat)(h:∀u,Q u->∀n,Pd R s0 (φ u) n->∃m∈T,Pd R s0 (φ u) m/\∀w,Pd R s0 w m->Pd R s0 w n) :
  dJ R s0 Q φ L (2 ^ T.length):=by
 refine⟨λu=>bits (Pd R s0 (φ u)) T,λu _=>cR _ _,λu v hu hv e n _=>?_⟩;have k:=eU e;constructor
 ·intro hn;obtain⟨m,h1,h2,h3⟩:=h u hu n hn;exact h3 _ ((k m h1).1 h2)
 ·intro hn;obtain⟨m,h1,h2,h3⟩:=h v hv n hn;exact h3 _ ((k m h1).2 h2)
theorem EH{Q:List Nat->Prop}{φ:List Nat->List Nat}(T L:List Nat)(h:∀u,Q u->∀n,Pd R s0 (φ u) n->∃m∈T,Pd R s0 (φ u) m/\∀w,Pd R s0 w m->Pd R s0 w n)
  (hq:∀u,Q u->∃n,Pd R s0 (φ u) n):dJ R s0 Q φ L (2 ^ T.length-1):=by
 have pos:∀u,Q u->0<bits (Pd R s0 (φ u)) T:=λu hu=>by
  obtain⟨n,hn⟩:=hq u hu;obtain⟨m,h1,h2,_⟩:=h u hu n hn;exact ij h1 h2
 refine⟨λu=>bits (Pd R s0 (φ u)) T-1,λu hu=>?_,λu v hu hv e n _=>?_⟩
 ·have:=pos u hu;have:=cR (Pd R s0 (φ u)) T;show bits (Pd R s0 (φ u)) T-1<_;omega
 ·have e:bits (Pd R s0 (φ u)) T-1=bits (Pd R s0 (φ v)) T-1:=e;have:=pos u hu;have:=pos v hv;have k:=eU (show bits (Pd R s0 (φ u)) T=bits (Pd R s0 (φ v)) T by omega);constructor
  ·intro hn;obtain⟨m,h1,h2,h3⟩:=h u hu n hn;exact h3 _ ((k m h1).1 h2)
  ·intro hn;obtain⟨m,h1,h2,h3⟩:=h v hv n hn;exact h3 _ ((k m h1).2 h2)
theorem A5(ok:lT R)(Q:List Nat->Prop)(ψ:List Nat->List Nat)(y:Nat)(L:List Nat):dJ R s0 Q (λu=>y::ψ u) L (2 ^ (Sd R y).length):=
 zF _ _ λu _ n hn=>E0 ok hn
theorem K8(ok:lT R){Q:List Nat->Prop}(ψ:List Nat->List Nat)(y:Nat)(L:List Nat)(hq:∀u,Q u->∃n,Pd R s0 (y::ψ u) n):dJ R s0 Q (λu=>y::ψ u) L (2 ^ (Sd R y).length-1):=
 EH _ _ (λu _ n hn=>E0 ok hn) hq
theorem E8(ok:lT R)(Q:List Nat->Prop)(ψ:List Nat->List Nat){x:Nat}(hx:x<3)(y:Nat)(L:List Nat):dJ R s0 Q (λu=>y::x::ψ u) L (2 ^ (lK R y).length):=
 zF _ _ λu _ n hn=>Ja ok hx hn
def Q2(R:List Ru)(s0 z y:Nat)(u:List Nat):Prop:=∃r∈R,I2 R s0 (z::y::u) r
def Q3(R:List Ru)(s0 z y x:Nat)(u:List Nat):Prop:=∃r∈R,I3 R s0 (z::y::x::u) r
theorem bP.c2(G:bP R s0 ws){z y K J:Nat}(h:dJ R s0 (Q2 R s0 z y) (λu=>u) (Lf R [y,z]) K)(h':dJ R s0 (Q2 R s0 z y) (λu=>y::u) (Lf R [z]) J) :
  (dA R s0 ws [z,y]).length<=K*J:=by
 obtain⟨c,c1,c2⟩:=h;obtain⟨d,d1,d2⟩:=h';refine G.IM (λu=>c u*J+d u) (λu hu=>fp (c1 u hu) (d1 u hu)) (λu v hu hv e=>?_);obtain⟨e1,e2⟩:=ef (d1 u hu) (d1 v hv) e;exact⟨d2 u v hu hv e2,c2 u v hu hv e1⟩
theorem bP.c3(G:bP R s0 ws){z y x K J I:Nat}(h:dJ R s0 (Q3 R s0 z y x) (λu=>u) (Lf R [x,y,z]) K)
  (h1:dJ R s0 (Q3 R s0 z y x) (λu=>x::u) (Lf R [y,z]) J) (h2:dJ R s0 (Q3 R s0 z y x) (λu=>y::x::u) (Lf R [z]) I):(dA R s0 ws [z,y,x]).length<=K*J*I:=by
 obtain⟨c,c1,c2⟩:=h;obtain⟨d,d1,d2⟩:=h1;obtain⟨f,f1,f2⟩:=h2;refine G.Az (λu=>(c u*J+d u)*I+f u) (λu hu=>fp (fp (c1 u hu) (d1 u hu)) (f1 u hu)) (λu v hu hv e=>?_);obtain⟨e1,e2⟩:=ef (f1 u hu) (f1 v hv) e;obtain⟨e3,e4⟩:=ef (d1 u hu) (d1 v hv) e1;exact⟨f2 u v hu hv e2,d2 u v hu hv e4,c2 u v hu hv e3⟩
theorem bP.Pg(G:bP R s0 ws){z y x K J:Nat}(h:dJ R s0 (Q3 R s0 z y x) (λu=>u) (Lf R [x,y]) K)
  (h1:dJ R s0 (Q3 R s0 z y x) (λu=>x::u) (Lf R [y]) J):(dA R s0 ws [z,y,x]).length<=K*J:=by
 obtain⟨c,c1,c2⟩:=h;obtain⟨d,d1,d2⟩:=h1;refine G.Az (λu=>c u*J+d u) (λu hu=>fp (c1 u hu) (d1 u hu)) (λu v hu hv e=>?_);obtain⟨e1,e2⟩:=ef (d1 u hu) (d1 v hv) e;have a0:=c2 u v hu hv e1;have a1:=d2 u v hu hv e2;exact⟨λn _=>zW G.ok a1 a0 n,λn hn=>a1 n (fH (p:=[y]) (q:=[z]) hn),λn hn=>a0 n (fH (p:=[x,y]) (q:=[z]) hn)⟩
theorem OW(ok:lT R){v n:Nat}{t:List Nat}(h:Pd R s0 (v::t) n):v<7:=by
 generalize e:v::t=W at h
 induction h with
 | start=>cases e
 | one hr e2 hp _=>
  simp only[R1] at e;obtain⟨rfl,rfl⟩:=e;exact ok.sym _ hr _ (by rw[e2];simp)
 | two hr e2 hp _=>
  simp only[R1] at e;obtain⟨rfl,rfl⟩:=e;exact ok.sym _ hr _ (by rw[e2];simp)
 | xG hp hr e2 ih=>exact ih e
theorem bP.Rf(G:bP R s0 ws){z y:Nat}{K J:Nat->Nat}(h:∀v,v<7->dJ R s0 (λt=>Q2 R s0 z y (v::t)) (λt=>v::t) (Lf R [y,z]) (K v))
  (h':∀v,v<7->dJ R s0 (λt=>Q2 R s0 z y (v::t)) (λt=>y::v::t) (Lf R [z]) (J v)) :
  (dA R s0 ws [z,y]).length<=1+sm λv=>K v*J v:=by
 have key:∀w∈dA R s0 ws [z,y],∃u,w=z::y::u/\(∀r∈R,¬I3 R s0 w r)/\Q2 R s0 z y u:=by
  intro w hw;obtain⟨h1,h2⟩:=jj.1 hw;obtain⟨⟨u,rfl⟩,h3,h4⟩:=vf (G.live _ h1) h2;exact⟨u,rfl,h3,h4⟩
 have hp:=parts (λw:List Nat=>w.tail.tail.take 1) mK (dA R s0 ws [z,y]) (λw hw=>by
  obtain⟨u,rfl,_,r,hr,hi⟩:=key w hw;unfold mK
  match u,hi with
  | [],_=>exact RR ..
  | v::t,⟨_,hi⟩=>exact If _ (RI.2 ⟨v,RQ.2 (OW G.ok hi),by simp⟩))
 refine AI hp ?_;unfold mK;rw[JN,SG,Ti,gN];have hd:(dA R s0 ws [z,y]).Pairwise λa b=>¬pB R s0 a b:=Sx _ G.diff;refine RU ?_ (gv λv hv=>?_)
 ·refine nS (P:=pB R s0) (λ_=>0) 1 _ (Sx _ hd) (λw hw=>by simp) (λa ha b hb _=>?_);have e:∀w,w∈(dA R s0 ws [z,y]).filter (λw=>w.tail.tail.take 1=[])->w=[z,y]:=λw hw=>by
   rw[RJ] at hw;obtain⟨u,rfl,_⟩:=key w hw.1;have:=hw.2;cases u with
   | nil=>rfl
   | cons v t=>simp at this
  rw[e a ha,e b hb];exact λr _=>⟨Iff.rfl,Iff.rfl,Iff.rfl⟩
 ·obtain⟨c,c1,c2⟩:=h v hv;obtain⟨d,d1,d2⟩:=h' v hv;have key2:∀w,w∈(dA R s0 ws [z,y]).filter (λw=>w.tail.tail.take 1=[v])->∃t,w=z::y::v::t/\(∀r∈R,¬I3 R s0 w r)/\Q2 R s0 z y (v::t):=λw hw=>by
   rw[RJ] at hw;obtain⟨u,rfl,h3,h4⟩:=key w hw.1;have e:=hw.2;cases u with
   | nil=>simp at e
   | cons v' t=>
    simp only[List.tail_cons,List.take,Su,R1,UP] at e;subst e;exact⟨t,rfl,h3,h4⟩
  refine nS (P:=pB R s0) (λw=>c w.tail.tail.tail*J v+d w.tail.tail.tail) (K v*J v) _ (Sx _ hd) (λw hw=>?_) (λa ha b hb e=>?_)
  ·obtain⟨t,rfl,_,hq⟩:=key2 w hw;exact fp (c1 t hq) (d1 t hq)
  ·obtain⟨t,rfl,a3,hq⟩:=key2 a ha;obtain⟨t',rfl,b3,hq'⟩:=key2 b hb;obtain⟨e1,e2⟩:=ef (d1 t hq) (d1 t' hq') e;exact HY G.ok (d2 t t' hq hq' e2) (c2 t t' hq hq' e1) a3 b3
theorem bP.NC(G:bP R s0 ws)(z y:Nat){K:Nat}{A B:Nat->Nat}(h1:kL R s0 (QE R s0 y (Lf R [y])) (Lf R [y]) K)
  (h2:∀x,x<7->dJ R s0 (Q2 R s0 y x) (λu=>u) (Lf R [x,y]) (A x)) (h3:∀x,x<7->dJ R s0 (Q2 R s0 y x) (λu=>x::u) (Lf R [y]) (B x)) :
  (Ft R s0 ws z y).length<=K+sm λx=>A x*B x:=by
 have hp:=parts (ahead R s0) mK (Ft R s0 ws z y) (λw hw=>by
  obtain⟨_,⟨u,rfl⟩,_⟩:=qY hw;unfold ahead mK;split
  ·rename_i h;obtain⟨r,hr,hi⟩:=h
   match u,hi with
   | x::u,⟨⟨l,e⟩,_⟩=>
    exact If _ (RI.2 ⟨x,RQ.2 (G.ok.sym r hr x (by rw[e];simp)),by simp⟩)
  ·exact RR ..)
 refine AI hp ?_;unfold mK;rw[JN,SG,Ti,gN];have hd:(Ft R s0 ws z y).Pairwise λa b=>¬pB R s0 a b:=Sx _ G.diff;refine RU ?_ (gv λx hx=>?_)
 ·exact Ov
 ·obtain⟨c,c1,c2⟩:=h2 x hx;obtain⟨d,d1,d2⟩:=h3 x hx;have key:∀w∈(Ft R s0 ws z y).filter (λw=>ahead R s0 w=[x]),∃u,w=z::y::x::u/\Q2 R s0 y x u:=by
   intro w hw;rw[RJ] at hw;obtain⟨hw,ha⟩:=hw;obtain⟨_,⟨u,rfl⟩,hi⟩:=qY hw;have ha:ahead R s0 (z::y::u)=[x]:=by simpa using ha
   unfold ahead at ha;split at ha
   ·rename_i h;obtain⟨r,hr,hi2⟩:=h
    match u,hi2 with
    | x'::u,hi2=>
     simp only[List.tail_cons,List.take,R1,UP] at ha;subst ha;exact⟨u,rfl,r,hr,hi2⟩
   ·cases ha
  refine nS (P:=pB R s0) (λw=>c w.tail.tail.tail*B x+d w.tail.tail.tail) (A x*B x) _ (Sx _ hd) (λw hw=>?_) (λa ha b hb e=>?_)
  ·obtain⟨u,rfl,hq⟩:=key w hw;exact fp (c1 u hq) (d1 u hq)
  ·obtain⟨u,rfl,hq⟩:=key a ha;obtain⟨v,rfl,hq'⟩:=key b hb;obtain⟨e1,e2⟩:=ef (d1 u hq) (d1 v hq') e;have a0:=c2 u v hq hq' e1;have a1:=d2 u v hq hq' e2;exact Kj G.ok (λn _=>zW G.ok a1 a0 n) (λn hn=>a1 n (fH (p:=[y]) (q:=[z]) hn)) (λn hn=>a0 n (fH (p:=[x,y]) (q:=[z]) hn))
end
end Bd