/-
  Walks: what functions of the program do, over the abstract machine.
-/
import Derived.Test.YtcldmcmclejlhaaGreatDoorWk2
set_option linter.unusedVariables false
set_option maxRecDepth 20000
set_option maxHeartbeats 0
open Go Go.Abs Go.Proofs Go.Proofs.D
set_option linter.unusedVariables false
set_option maxRecDepth 20000
set_option maxHeartbeats 0
open Go Go.Abs Go.Proofs Go.Proofs.D
namespace Go.Proofs.D
structure Tc where
 O:List Int
 B:List (Nat×aJ)
 again:Bool
structure S8 where
 xs:List Bool
 a:Option Addr
 m:Nat
 c:Nat
 B:List (Nat×aJ)
structure DS where
 i:Nat
 j:Nat
 ys:List bY
 B:List (Nat×aJ)
structure QZ where
 ic:Nat
 ra:Option Addr
 rm:Nat
 rc:Nat
structure Ps where
 k:Nat
 dy:List (List Item)
 last:List Item
 sa:Option Addr
 sc:Nat
 BS:List (Nat×aJ)
 vs:List Value
 la:Option Addr
 lc:Nat
 BL:List (Nat×aJ)
 us:List Value
 im:Nat
 es:cd Item
 xa:Option Addr
 xn:Nat
 xc:Nat
 BX:List (Nat×aJ)
structure Sw(g:aj)(Q:Nat->Item->Prop)(q:QZ)(F:aA)(s:Ps):Prop where
 rules:bk cD F q.ra q.rm q.rc g.rules
 xN:cb AU F s.sa (s.k+1) s.sc s.BS (s.vs++[.map (some s.im)])
 list:cb AU F s.la (s.k+1) s.lc s.BL (s.us++[.slice s.xa s.xn s.xc])
 S6:s.us.length=s.k
 Sz:s.dy.length=s.k
 RF:∀(j:Nat) (l:List Item),s.dy[j]?=some l->∃a n c,s.us[j]?=some (.slice a n c)/\bk KV F a n c l
 map:∀y,Abs.look s.es y=if y∈s.last then some (.bool true) else none
 last:cb KV F s.xa s.xn s.xc s.BX s.last
 nodup:s.last.Nodup
 S1:∀(j:Nat) (l:List Item),s.dy[j]?=some l->∀x∈l,Q j x
 Sv:∀x∈s.last,Q s.k x
 small:s.k<=20
 RC:∀(j:Nat) (l:List Item),s.dy[j]?=some l->l.length<=3360
 Si:∀(j:Nat) (l:List Item),s.dy[j]?=some l->l.Nodup
structure Oq(s s':Ps)(P:Item->Prop):Prop where
 k:s'.k=s.k
 dy:s'.dy=s.dy
 last:∃new,s'.last=s.last++new/\∀y∈new,P y
theorem Oq.refl(s:Ps)(P:Item->Prop):Oq s s P:=⟨rfl,rfl,[],by simp,λ_ h=>by cases h⟩
def LS(s:Ps):Nat->List Item:=λj=>if j=s.k then s.last else s.dy.getD j []
structure CI where
 s:Ps
 n:Int
structure CJ where
 s:Ps
 i:Nat
structure NB where
 xs:List Bool
 B:List (Nat×aJ)
def QI(g:aj):Nat->Item->Prop:=λk x=>HH g.rules k x
structure Sl where
 fi:Nat
 ga:Option Addr
 gm:Nat
 gc:Nat
 q:QZ
 s:Ps
 wa:Option Addr
 wn:Nat
 wc:Nat
 BW:List (Nat×aJ)
 w:List Nat
 E:List Bool
structure SZ(g:aj)(F:aA)(f:Sl):Prop where
 rules:bk cD F f.ga f.gm f.gc g.rules
 ends:Ma g f.E
 Qb:Sw (trimmed f.E g) (QI (trimmed f.E g)) f.q F f.s
 k:f.s.k=f.w.length
 xN:OP (trimmed f.E g) f.w (LS f.s)
 word:cb eV F f.wa f.wn f.wc f.BW f.w
 ok:∀t∈f.w,t<g.ae
structure RK(g:aj)(f:Sl)(xs:List Bool):Prop where
 len:xs.length=g.ae+1
 term:∀t,t<g.ae->(xs[t]?=some true↔∃x∈f.s.last,zY (trimmed f.E g).rules x=some ⟨true,t⟩)
 done:xs[g.ae]?=some (IV g f.w g.start 0 f.w.length)
structure RZ where
 k:Nat
 lists:List (List Item)
 sa:Option Addr
 sc:Nat
 BS:List (Nat×aJ)
 vs:List Value
 la:Option Addr
 lc:Nat
 BL:List (Nat×aJ)
 us:List Value
structure SI(g:aj)(Q:Nat->Item->Prop)(q:QZ)(F:aA)(s:RZ):Prop where
 rules:bk cD F q.ra q.rm q.rc g.rules
 xN:GB AU F s.sa (s.k+1) s.sc s.BS s.vs
 list:GB AU F s.la (s.k+1) s.lc s.BL s.us
 len:s.lists.length=s.k+1
 RF:∀(j:Nat) (l:List Item),s.lists[j]?=some l->∃a n c,s.us[j]?=some (.slice a n c)/\bk KV F a n c l
 all:∀(j:Nat) (l:List Item),s.lists[j]?=some l->∀x∈l,Q j x
 small:s.k<=20
 RC:∀(j:Nat) (l:List Item),s.lists[j]?=some l->l.length<=3360
 nd:∀(j:Nat) (l:List Item),s.lists[j]?=some l->l.Nodup
def LZ(s:RZ):Nat->List Item:=λj=>s.lists.getD j []
def QP(g:aj)(w:List Nat):Nat->Item->Prop:=λk x=>HH g.rules k x/\(k<=w.length->∀L,OP g (w.take k) L->x∈L k)
structure FZ where
 fi:Nat
 ga:Option Addr
 gm:Nat
 gc:Nat
 q:QZ
 s:RZ
 wa:Option Addr
 wn:Nat
 wc:Nat
 BW:List (Nat×aJ)
 w:List Nat
 E:List Bool
structure Ta(g:aj)(F:aA)(f:FZ):Prop where
 rules:bk cD F f.ga f.gm f.gc g.rules
 ends:Ma g f.E
 Qb:SI (trimmed f.E g) (QP (trimmed f.E g) f.w) f.q F f.s
 k:f.s.k=f.w.length
 xN:OP (trimmed f.E g) f.w (LZ f.s)
 word:GB eV F f.wa f.wn f.wc f.BW f.w
 ok:∀t∈f.w,t<g.ae
structure R3(g:aj)(f:FZ)(xs:List Bool):Prop where
 len:xs.length=g.ae+1
 term:∀t,t<g.ae->(xs[t]?=some true↔∃x∈LZ f.s f.s.k,zY (trimmed f.E g).rules x=some ⟨true,t⟩)
 done:xs[g.ae]?=some (IV g f.w g.start 0 f.w.length)
def DW(g:aj)(y:List Nat)(l:List Sym):Prop:=v7 g y l 0 y.length
theorem vu.tree{g:aj}{w:List Nat}{s:Sym}{i j:Nat}(h:vu g w s i j):∃T,aI g w s T i j:=by
 refine vu.rec (motive_1:=λs i j _=>∃T,aI g w s T i j) (motive_2:=λl i j _=>∃ts,aF g w l ts i j) ?_ ?_ ?_ ?_ h;{intro t i h;exact⟨_,.leaf h⟩};{intro r i j p _ ⟨ts,o⟩;obtain⟨k,hk⟩:=Um p;exact⟨_,.node hk o⟩};{intro i;exact⟨[],.nil⟩};{intro s l i m j _ _ ⟨T,h1⟩ ⟨ts,o⟩;exact⟨_,.cons h1 o⟩}
inductive E4(g:aj)(w:List Nat)(p c:Nat):Sym->Nat->Nat->Prop
 | leaf:E4 g w p c ⟨true,c⟩ p 0
 | node {k:Nat} {r:bY} {pre post:List Sym} {s:Sym} {ts:List Tree} {i m n:Nat}:g.rules[k]?=some r->r.right=pre++s::post->aF g w pre ts i m->E4 g w p c s m n->E4 g w p c ⟨false,r.left⟩ i (n+(bK ts).length+1)
mutual
theorem aI.spine{g:aj}{w:List Nat}{p c:Nat}(l:w[p]?=some c):∀{T:Tree} {X:Sym} {i j:Nat},aI g w X T i j->i<=p->p<j->∃n,E4 g w p c X i n
 | .mk _ _ _,_,i,_,.leaf h,h1,o=>by{obtain rfl:i=p:=by{omega};rw[l] at h;obtain rfl:=aE h;exact⟨0,.leaf⟩}
 | .mk _ _ ks,_,i,j,.node h o,r,t=>by{obtain⟨pre,s,post,ts,m,n,C,I,J⟩:=aF.spine l o r t;exact⟨_,.node h C I J⟩}
theorem aF.spine{g:aj}{w:List Nat}{p c:Nat}(r:w[p]?=some c):∀{ts:List Tree} {l:List Sym} {i j:Nat},aF g w l ts i j->i<=p->p<j->∃pre s post o m n,l=pre++s::post/\aF g w pre o i m/\E4 g w p c s m n
 | [],_,i,_,.nil,h1,t=>by omega
 | T::ts,_,i,j,.cons (s:=s) (l:=l) (m:=m) h1 t,C,I=>by{rcases IN p m with h5 | h5;{obtain⟨n,J⟩:=aI.spine r h1 C h5;exact⟨[],s,l,[],i,n,rfl,.nil,J⟩};{obtain⟨pre,s',post,o,P,n,R,U,e3⟩:=aF.spine r t h5 I;exact⟨s::pre,s',post,T::o,P,n,by rw[R];rfl,.cons h1 U,e3⟩}}
end
section
variable {g:aj}{it:Nat->Lr->Prop}{la:Nat->Lr->Nat->Prop}{go:Nat->Sym->Option Nat}{act:Nat->Nat->Act}{w:List Nat}
end
section
variable {g:aj}{w:List Nat}{E:List (List Nat)}{root:Key}{S:List Key}
mutual
theorem aI.R1:∀{t:Tree} {s:Sym} {i j:Nat},aI g w s t i j->vu g w s i j
 | _,_,_,_,.leaf h=>.term h
 | _,_,_,_,.node h l=>.HM (gM h) (aF.PT l)
theorem aF.PT:∀{ts:List Tree} {l:List Sym} {i j:Nat},aF g w l ts i j->v7 g w l i j
 | [],_,_,_,.nil=>.nil
 | _::_,_,_,_,.cons h o=>.cons (aI.R1 h) (aF.PT o)
end
mutual
theorem aI.fin:∀{t:Tree} {s:Sym} {i j:Nat},aI g w s t i j->i<=w.length->j<=w.length
 | _,_,_,_,.leaf h,_=>(gS h).1
 | _,_,_,_,.node _ l,hi=>aF.P6 l hi
theorem aF.P6:∀{ts:List Tree} {l:List Sym} {i j:Nat},aF g w l ts i j->i<=w.length->j<=w.length
 | [],_,_,_,.nil,hi=>hi
 | _::_,_,_,_,.cons h o,hi=>aF.P6 o (aI.fin h hi)
end
theorem LO(I:Valid g)(w:List Nat):∃E,gN g w E:=by
 refine⟨(List.range g.ay).map λn=>(List.range (w.length+1)).map λi=>bB (λj=>vu g w ⟨false,n⟩ i j) (w.length+1),⟨by simp,λr l=>?_,λr l x J=>?_⟩,λn i j hi=>?_⟩;{obtain⟨n,_,rfl⟩:=x6.1 l;simp};{obtain⟨n,_,rfl⟩:=x6.1 l;obtain⟨i,_,rfl⟩:=x6.1 J;exact iH _ _};{constructor;{rintro⟨row,x,h1,C,P⟩;rw[zy] at h1;obtain⟨R,t,rfl⟩:=VY.1 h1;obtain rfl:R=n:=by{obtain⟨U,o⟩:=gS t;rw[VN] at o;exact o.symm};rw[zy] at C;obtain⟨i',t,rfl⟩:=VY.1 C;obtain rfl:i'=i:=by{obtain⟨U,o⟩:=gS t;rw[VN] at o;exact o.symm};exact((ei _ _ _).1 P).2};{intro h;have hn:n<g.ay:=by{generalize hs:(⟨false,n⟩:Sym)=s at h;cases h with| term _=>{cases hs}| HM l _=>{cases hs;exact(I.right _ l).1}};have hj:=(vu.tree h).elim λT hT=>hT.fin hi;refine⟨_,_,gP (TN hn),gP (TN zo),(ei _ _ _).2 ⟨by omega,h⟩⟩}}
mutual
theorem aI.nt(P:gN g w E)(I:rq g w E root S):∀{T:Tree} {s:Sym} {i j:Nat},aI g w s T i j->j<=w.length->(⟨s,i,j⟩:Key)∈S->NT (bW (S.map (mkNode g w E S))) (place S ⟨s,i,j⟩) T
 | _,_,_,_,.leaf h,J,hk=>by{have l:=iV hk;obtain⟨t,hp⟩:=nK (g:=g) (w:=w) (E:=E) l;refine .leaf ?_ ?_;{show _<(S.map _).length;rw[tj];exact(gS l).1};{rw[t,n0 rfl]}}
 | _,_,_,_,.node (k:=k) (r:=r) R C,J,hk=>by{have l:=iV hk;obtain⟨t,hp⟩:=nK (g:=g) (w:=w) (E:=E) l;obtain⟨ks,h1,U⟩:=aF.Sq P I C J;have o:(⟨k,ks⟩:gh)∈bT g w E ⟨⟨false,r.left⟩,_,_⟩:=dJ.2 ⟨r,R,rfl,rfl,h1⟩;refine NT.node (p:=eQ S ⟨k,ks⟩) ?_ (by rw[t];rfl) ?_ (U λq hq=>I.closed _ hk _ o q hq);{show _<(S.map _).length;rw[tj];exact(gS l).1};{rw[hp];exact Ud o}}
theorem aF.Sq(o:gN g w E)(r:rq g w E root S):∀{ts:List Tree} {l:List Sym} {i j:Nat},aF g w l ts i j->j<=w.length->∃ks,ks∈splits w E j l i/\((∀q∈ks,q∈S)->sT (bW (S.map (mkNode g w E S))) (ks.map (place S)) ts)
 | _,_,i,_,.nil,_=>⟨[],by unfold splits;rw[n0 rfl];exact ti.2 rfl,λ_=>.nil⟩
 | _,_,i,j,.cons (s:=s) (m:=m) h t,I=>by{have hm:=t.le;have hi:=h.le;obtain⟨ks,g1,g2⟩:=aF.Sq o r t I;refine⟨⟨s,i,m⟩::ks,?_,λC=>.cons (aI.nt o r h zo (C _ me)) (g2 λq hm=>C q (mb _ hm))⟩;unfold splits;refine Up.2 ⟨m,Tz.2 zo,?_⟩;rw[n0 ((nh o zo).2 h.R1)];exact Ud g1}
end
theorem nM.rest(l:Valid g){most:Nat}{L:List Tree}{c:Int}(h:nM g w most L c)(hm:0<most){T:Tree}(hT:aI g w ⟨false,g.start⟩ T 0 w.length)(o:T∉L):L.length=most\/5000<T.pre.length:=by
 rcases h.2 with ⟨h1,rfl⟩ | ⟨rfl,_⟩ | ⟨E,S,i,p,j,r⟩;{obtain⟨E,i⟩:=LO l w;have:=h1 E i;rw[(nh i (If _)).2 hT.R1] at this;cases this};{omega};{exact(r.rest T (hT.nt i j (mc _) j.first) o).2}
end
section
variable {g:aj}{w:List Nat}
def kx(g:aj)(w:List Nat)(s:Sym)(T:Tree)(i j:Nat):Prop:=aI g w s T i j/\∀l,aI g w s l i j->l=T
def HZ(g:aj)(w:List Nat)(l:List Sym)(ts:List Tree)(i j:Nat):Prop:=aF g w l ts i j/\∀o,aF g w l o i j->o=ts
theorem HZ.cons{s:Sym}{l:List Sym}{ts:List Tree}{i j:Nat}(h:HZ g w (s::l) ts i j):∃t us m,ts=t::us/\kx g w s t i m/\HZ g w l us m j/\i<=m/\m<=j/\(bK ts).length=t.pre.length+(bK us).length:=by
 obtain⟨h1,p⟩:=h;cases h1 with| @cons _ _ t us _ m _ a b=>{refine⟨t,us,m,rfl,⟨a,λr o=>(List.cons.inj (p _ (.cons o b))).1⟩,⟨b,λC o=>(List.cons.inj (p _ (.cons a o))).2⟩,(aI.le a).1,(aF.le b).1,?_⟩;show (t.pre++bK us).length=_;rw[sj]}
theorem kx.kids{n:Nat}{T:Tree}{i j:Nat}(h:kx g w ⟨false,n⟩ T i j):∃(k:Nat) (r:bY) (ks:List Tree),g.rules[k]?=some r/\r.left=n/\HZ g w r.right ks i j/\T.pre.length=1+(bK ks).length:=by
 obtain⟨h1,o⟩:=h;cases h1 with| @node k r ks _ _ l p=>{refine⟨k,r,ks,l,rfl,⟨p,λt C=>?_⟩,?_⟩;{have:=o _ (.node l C);cases this;rfl};{show ((bK ks).length+1)=_;omega}}
mutual
theorem aI.move:∀{t:Tree} {s:Sym} {i j:Nat},aI g w s t i j->i=j->∀k,aI g w s t k k
 | _,_,_,_,.leaf _,e,_=>by omega
 | _,_,_,_,.node h l,e,k=>.node h (aF.move l e k)
theorem aF.move:∀{ts:List Tree} {l:List Sym} {i j:Nat},aF g w l ts i j->i=j->∀k,aF g w l ts k k
 | [],_,_,_,.nil,_,_=>.nil
 | _::_,_,_,_,.cons h o,e,k=>by{have r:=(aI.le h).1;have t:=(aF.le o).1;exact .cons (aI.move h zo k) (aF.move o zo k)}
end
def eU:Nat->Nat
 | 0=>1
 | k+1=>1+3*eU k
theorem lJ{U:List Nat}{m x:Nat}(h:x∈U)(g:x≠m):x∈U.erase m:=(VE g).2 h
theorem HZ.sum{B:Nat}:∀{l:List Sym} {ts:List Tree} {i j:Nat},HZ g w l ts i j->(∀s t a b,kx g w s t a b->i<=a->a<=b->b<=j->t.pre.length<=(bK ts).length->t.pre.length<=B)->(bK ts).length<=l.length*B
 | [],_,_,_,h,_=>by{cases h.1;exact If _}
 | s::l,ts,i,j,h,hk=>by{obtain⟨t,us,m,rfl,h1,o,r,C,e⟩:=h.cons;have g1:=hk s t i m h1 (mc _) r C zo;have g2:=o.sum λs' I a b J R P q4 q5=>hk s' I a b J zo P q4 zo;rw[e,IT,Vx];omega}
theorem P2(h3:∀r∈g.rules,r.right.length<=3):∀(k:Nat) (U:List Nat) (n i:Nat) (T:Tree),U.length<=k->kx g w ⟨false,n⟩ T i i->(∀m P,kx g w ⟨false,m⟩ P i i->P.pre.length<T.pre.length->m∈U)->T.pre.length<=eU k:=by
 intro k;induction k with| zero=>{intro U n i T hU hT j;obtain⟨q,r,ks,hr,_,o,e⟩:=hT.kids;have aa:U=[]:=BY zo;subst aa;generalize r.right=rr at o;cases rr with| nil=>{cases o.1;rw[e];exact mc _}| cons s l=>{exfalso;obtain⟨t,us,m,rfl,a,b,ha,hb,e2⟩:=o.cons;obtain rfl:m=i:=by{omega};have C:=(aI.begin a.1).1 rfl;obtain⟨sb,sn⟩:=s;obtain rfl:sb=false:=C.1;have:=j sn t a zo;cases this}}| succ k ih=>{intro U n i T hU hT j;obtain⟨q,r,ks,hr,_,o,e⟩:=hT.kids;have hl:=h3 r (gM hr);have h5:=o.sum (B:=eU k) λs t a b R q2 q3 q4 q5=>by{obtain rfl:a=i:=by{omega};obtain rfl:b=a:=by{omega};have C:=(aI.begin R.1).1 rfl;obtain⟨sb,sn⟩:=s;obtain rfl:sb=false:=C.1;have ac:=j sn t R zo;refine ih (U.erase sn) sn b t (by rw[UH ac];omega) R λm' P I J=>?_;refine lJ (j m' P I zo) λe=>?_;subst e;rw[R.2 _ I.1] at J;omega};rw[e];have:r.right.length*eU k<=3*eU k:=TG _ hl;show _<=1+3*eU k;omega}
theorem kx.HM(i:Valid g){m a b:Nat}{T:Tree}(h:kx g w ⟨false,m⟩ T a b):m<g.ay:=by
 cases h.1 with| node h1 _=>{exact(i.right _ (gM h1)).1}
theorem kx.range(j:Valid g)(l:g.ay<=4){n a b:Nat}{T:Tree}(h:kx g w ⟨false,n⟩ T a b):((List.range g.ay).erase n).length<=3/\∀m i,kx g w ⟨false,m⟩ i a b->i.pre.length<T.pre.length->m∈(List.range g.ay).erase n:=by
 refine⟨?_,λm i h1 o=>lJ (Tz.2 (h1.HM j)) λe=>?_⟩;{rw[UH (Tz.2 (h.HM j)),T3];omega};{subst e;rw[h.2 _ h1.1] at o;omega}
theorem kx.full(I:Valid g)(l:g.ay<=4)(J:∀r∈g.rules,r.right.length<=3){n i:Nat}{T:Tree}(h:kx g w ⟨false,n⟩ T i i)(hT:13<T.pre.length){m:Nat}(hm:m<g.ay):∃E,kx g w ⟨false,m⟩ E i i/\E.pre.length<=T.pre.length:=by
 refine Classical.byContradiction λj=>?_;have o:m≠n:=λe=>j ⟨T,by rw[e];exact h,mc _⟩;obtain⟨h1,P⟩:=h.range I l;have p:m∈(List.range g.ay).erase n:=lJ (Tz.2 hm) o;have:=P2 J 2 (((List.range g.ay).erase n).erase m) n i T (by rw[UH p];omega) h λq t C R=>lJ (P q t C R) λe=>j ⟨t,by rw[<-e];exact C,by omega⟩;have e:eU 2=13:=rfl;omega
theorem CM{f:Nat->Tree}{i:Nat}:∀{l:List Sym},(∀s∈l,s.term=false/\aI g w ⟨false,s.n⟩ (f s.n) i i)->aF g w l (l.map λs=>f s.n) i i/\∀s∈l,(f s.n).pre.length<=(bK (l.map λs=>f s.n)).length
 | [],_=>⟨.nil,λ_ h=>by cases h⟩
 | ⟨r,sn⟩::l,h=>by{obtain⟨h1,j⟩:=h _ me;obtain⟨o,p⟩:=CM (l:=l) λs hs=>h s (mb _ hs);simp only at h1;subst h1;have e:(bK ((⟨false,sn⟩::l).map λs=>f s.n)).length=(f sn).pre.length+(bK (l.map λs=>f s.n)).length:=by{show ((f sn).pre++bK _).length=_;rw[sj]};(refine⟨.cons j o,λs hs=>?_⟩;rw[e];rcases PJ.1 hs with rfl | hs);{exact V3 _ _};{have:=p s hs;omega}}
theorem K8(I:Valid g)(J:g.ay<=4)(h3:∀r∈g.rules,r.right.length<=3){k:Nat}{r:bY}(U:g.rules[k]?=some r)(o:∀s∈r.right,s.term=false){sn a:Nat}{t:Tree}(hs:⟨false,sn⟩∈r.right)(P:kx g w ⟨false,sn⟩ t a a):t.pre.length<=13:=by
 refine Nat.le_of_not_lt λR=>?_;have j:=λm (hm:m<g.ay)=>P.full I J h3 R hm;have p:=I.right r (gM U);have C:∃f:Nat->Tree,∀m,m<g.ay->kx g w ⟨false,m⟩ (f m) a a/\(f m).pre.length<=t.pre.length:=by
  classical
  refine⟨λm=>if hm:m<g.ay then (j m hm).choose else t,λm hm=>?_⟩;simp only[dif_pos hm];exact(j m hm).choose_spec
 obtain⟨f,C⟩:=C;obtain⟨h1,h2⟩:=CM (g:=g) (w:=w) (f:=f) (i:=a) (l:=r.right) λs hs=>⟨o s hs,(C _ (by have:=p.2.2 s hs;rw[cP,o s hs] at this;simpa using this)).1.1⟩;have h4:=h2 _ hs;rw[(P.2 _ (C sn (P.HM I)).1.1)] at h4;obtain⟨h5,h6⟩:=C r.left p.1;have h7:=h5.2 _ (.node U h1);have h8:(Tree.mk (k:Int) 0 (r.right.map λs=>f s.n)).pre.length=(bK (r.right.map λs=>f s.n)).length+1:=rfl;rw[h7] at h8;omega
theorem N4{len K B i j:Nat}(hlen:j=i+len)(h0:0<len){l:List Sym}{ks:List Tree}(h:HZ g w l ks i j)(hl:l.length<=3)(C:B<=13\/(B<=40/\∃s∈l,s.term=true))
  (hk:∀s t a b,s∈l->kx g w s t a b->i<=a->a<=b->b<=j->t.pre.length<=(bK ks).length->(s.term=true->t.pre.length=1/\b=a+1)/\((b=a/\t.pre.length<=B)\/(∃d,b=a+d/\0<d/\d<len/\t.pre.length+95<=258*d)\/(b=a+len/\t.pre.length+203<=258*len+27*K)\/(b=a+len/\t.pre.length=1/\len=1))) :
  1+(bK ks).length+203<=258*len+27*(K+1):=by
 have e0:(bK ([]:List Tree)).length=0:=rfl;cases l with| nil=>{cases h.1;omega}| cons s1 l=>{obtain⟨t1,u1,m1,rfl,x1,h,U,b1,e1⟩:=h.cons;obtain⟨I,J⟩:=hk s1 t1 i m1 (by simp) x1 (mc _) U b1 zo;cases l with| nil=>{cases h.1;rcases C with C | ⟨C,s,hs,o⟩;{rcases J with p | ⟨d,p⟩ | p | p<;>omega};{simp only[PJ,V5,or_false] at hs;subst hs;obtain⟨I,p4⟩:=I o;omega}}| cons s2 l=>{obtain⟨t2,u2,m2,rfl,x2,h,a2,b2,e2⟩:=h.cons;obtain⟨R,P⟩:=hk s2 t2 m1 m2 (by simp) x2 U a2 b2 zo;cases l with| nil=>{cases h.1;rcases C with C | ⟨C,s,hs,o⟩;{rcases J with p | ⟨d,p⟩ | p | p<;>rcases P with q | ⟨f,q⟩ | q | q<;>omega};{simp only[PJ,V5,or_false] at hs;rcases hs with rfl | rfl;{obtain⟨I,p4⟩:=I o;rcases P with q | ⟨f,q⟩ | q | q<;>omega};{obtain⟨R,q4⟩:=R o;rcases J with p | ⟨d,p⟩ | p | p<;>omega}}}| cons s3 l=>{obtain⟨t3,u3,m3,rfl,x3,h,a3,b3,e3⟩:=h.cons;obtain⟨r0,r1⟩:=hk s3 t3 m2 m3 (by simp) x3 zo a3 b3 zo;cases l with| nil=>{cases h.1;rcases C with C | ⟨C,s,hs,o⟩;{rcases J with p | ⟨d,p⟩ | p | p<;>rcases P with q | ⟨f,q⟩ | q | q<;>rcases r1 with r | ⟨e,r⟩ | r | r<;>omega};{simp only[PJ,V5,or_false] at hs;rcases hs with rfl | rfl | rfl;{obtain⟨I,p4⟩:=I o;rcases P with q | ⟨f,q⟩ | q | q<;>rcases r1 with r | ⟨e,r⟩ | r | r<;>omega};{obtain⟨R,q4⟩:=R o;rcases J with p | ⟨d,p⟩ | p | p<;>rcases r1 with r | ⟨e,r⟩ | r | r<;>omega};{obtain⟨r0,r4⟩:=r0 o;rcases J with p | ⟨d,p⟩ | p | p<;>rcases P with q | ⟨f,q⟩ | q | q<;>omega}}}| cons _ _=>{simp only[IT] at hl;omega}}}}
theorem kx.xI(j:Valid g)(i:g.ay<=4)(l:∀r∈g.rules,r.right.length<=3){n a:Nat}{T:Tree}(h:kx g w ⟨false,n⟩ T a a):T.pre.length<=40:=by
 obtain⟨h1,o⟩:=h.range j i;exact P2 l 3 _ n a T h1 h o
theorem Pd(hg:Valid g)(J:g.ay<=4)(h3:∀r∈g.rules,r.right.length<=3):∀(len k:Nat) (U:List Nat) (n i j:Nat) (T:Tree),j-i=len->i<j->U.length<=k->kx g w ⟨false,n⟩ T i j->(∀m o,kx g w ⟨false,m⟩ o i j->o.pre.length<T.pre.length->m∈U)->T.pre.length+203<=258*len+27*(k+1):=by
 intro len;induction len using Nat.strongRecOn with| _ len ad=>{have main:∀(K:Nat) {n i j:Nat} {T:Tree},j-i=len->i<j->kx g w ⟨false,n⟩ T i j->(∀m o,kx g w ⟨false,m⟩ o i j->o.pre.length<T.pre.length->o.pre.length+203<=258*len+27*K)->T.pre.length+203<=258*len+27*(K+1):=by{intro K n i j T hlen C hT hF;obtain⟨q,r,ks,hr,_,ae,e⟩:=hT.kids;rw[e];have I:∀{B:Nat},(∀sn t a,⟨false,sn⟩∈r.right->kx g w ⟨false,sn⟩ t a a->t.pre.length<=B)->(B<=13\/(B<=40/\∃s∈r.right,s.term=true))->1+(bK ks).length+203<=258*len+27*(K+1):=λ{B} hE hB=>by{refine N4 zo zo ae (h3 r (gM hr)) hB λs t a b hs h1 R h4 h5 h6=>?_;obtain⟨sb,sn⟩:=s;cases sb with| true=>{cases h1.1 with| leaf _=>{(have:(Tree.mk (-1) sn []).pre.length=1:=rfl;rw[this];refine⟨λ_=>⟨rfl,rfl⟩,?_⟩;rcases IN 1 len with h | h);{exact .inr (.inl ⟨1,rfl,by omega⟩)};{exact .inr (.inr (.inr zo))}}}| false=>{(refine⟨λh=>(by cases h),?_⟩;rcases Nat.eq_or_lt_of_le h4 with hab | hab);{subst hab;exact .inl ⟨rfl,hE sn t a hs h1⟩};{rcases IN (b-a) len with af | hge;{obtain⟨g1,g2⟩:=h1.range hg J;have:=ad (b-a) af 3 _ sn a b t rfl hab g1 h1 g2;exact .inr (.inl ⟨b-a,by omega⟩)};{obtain rfl:a=i:=by{omega};obtain rfl:b=j:=by{omega};exact .inr (.inr (.inl ⟨by omega,hF sn t h1 zo⟩))}}}};by_cases P:∀s∈r.right,s.term=false;{exact I (λsn t a hs ht=>K8 hg J h3 hr P hs ht) (.inl (mc _))};{refine I (λsn t a _ ht=>ht.xI hg J h3) (.inr ⟨mc _,?_⟩);refine Classical.byContradiction λh=>P λs hs=>?_;cases e2:s.term with| false=>{rfl}| true=>{exact absurd ⟨s,hs,e2⟩ h}}};intro k;induction k with| zero=>{intro U n i j T hlen C hU hT l;have al:U=[]:=BY zo;subst al;exact main 0 hlen C hT λm o h1 R=>by have:=l m o h1 R;cases this}| succ k an=>{intro U n i j T hlen C hU hT l;refine main (k+1) hlen C hT λm o h1 R=>?_;have ao:=l m o h1 R;refine an (U.erase m) m i j o hlen C (by rw[UH ao];omega) h1 λm' T2 h4 h5=>?_;refine lJ (l m' T2 h4 zo) λe=>?_;subst e;rw[h1.2 _ h4.1] at h5;omega}}
theorem yE(j:Small g){T:Tree}(h:kx g w ⟨false,g.start⟩ T 0 w.length):T.pre.length<=258*w.length+40:=by
 (have i:=j.valid;have l:∀r∈g.rules,r.right.length<=3:=λr o=>(j.ok r o).2.1;rcases Ts w.length with e | e);{rw[e] at h ⊢;exact h.xI i j.ay.2 l};{obtain⟨h1,t⟩:=h.range i j.ay.2;have:=Pd i j.ay.2 l w.length 3 _ g.start 0 w.length T zo e h1 h t;omega}
end
theorem Fb{cs:List Value}{off n:Nat}{l:List Value}(h:bO cs off n=some l):l=(cs.drop off).take n/\l.length=n:=by
 unfold bO at h;cases e:(((cs.drop off).take n).length==n) with| false=>{simp only[e,zm] at h;cases h}| true=>{simp only[e,xf] at h;obtain rfl:=aE h;exact⟨rfl,eq_of_beq e⟩}
theorem vA{cs:List Value}{off n m:Nat}{g i:List Value}(h1:bO cs off n=some g)(j:bO cs (off+n) m=some i):bO cs off (n+m)=some (g++i):=by
 obtain⟨l,o⟩:=Fb h1;obtain⟨p,k2⟩:=Fb j;have e:(cs.drop off).take (n+m)=g++i:=by{rw[List.take_add,Vw,<-l,<-p]};unfold bO;simp only[e];have:((g++i).length==n+m)=true:=by{simp[o,k2]};rw[this];rfl
structure RS where
 xs:List Nat
 a:Option Addr
 c:Nat
 B:List (Nat×aJ)
def Of(g:aj)(w:List Nat)(F:aA)(v:Value):Prop:=
 ∃r t a n c b,v=.tuple ⟨[.agg ⟨[.int .i64 r,.int .i64 t,.slice a n c]⟩,.bool b]⟩/\
  ((∀T i,aI g w ⟨false,g.start⟩ T 0 w.length->aI g w ⟨false,g.start⟩ i 0 w.length->T=i)->
   (b=true/\∃X,aI g w ⟨false,g.start⟩ X 0 w.length/\bZ.rel F [.int .i64 r,.int .i64 t,.slice a n c] X)\/(b=false/\¬∃X,aI g w ⟨false,g.start⟩ X 0 w.length))
theorem JR{g:aj}(r:Small g){w:List Nat}(hw:w.length<=9){L:List Tree}{c:Int}(h:nM g w 2 L c)
  (hu:∀T l,aI g w ⟨false,g.start⟩ T 0 w.length->aI g w ⟨false,g.start⟩ l 0 w.length->T=l) {X:Tree} (o:aI g w ⟨false,g.start⟩ X 0 w.length):L=[X]:=by
 have hs:=yE r ⟨o,λl C=>hu l X C o⟩;have j:∀T∈L,T=X:=λT hT=>hu T X (h.valid T hT) o;have i:=h.sorted;have hm:X∈L:=Classical.byContradiction λt=>by{rcases h.rest r.valid zo o t with h1 | h1;{match L,h1 with| T::_,_=>{exact t (by rw[<-j T me];exact D2 ..)}};{omega}};match L,j,i,hm with| [T],j,_,_=>{rw[j T me]}| T::l::_,j,i,_=>{have h1:=List.rel_of_pairwise_cons i me;rw[j T (by simp),j l (by simp)] at h1;exact absurd h1 (rN _)}
theorem EP(F:aA)(hL:Laid F)(g:aj)(hg:Small g){ga:Option Addr}{gm gc:Nat}(hr:bk cD F ga gm gc g.rules){b:Option Addr}{n d:Nat}{w:List Nat}(hw:bk eV F b n d w)(af:w.length<=9)(P:∀t∈w,t<g.ae) :
  Abs.Spec CC 6 [.agg ⟨ai g ga gm gc⟩,.slice b n d] F [] λF' v o=>o=[]/\Of g w F' v:=by
 have R:=hg.valid;unfold ai;refine Abs.Spec.fn (n:=37) Tryz.func6 rfl rfl λown=>?_;refine AW.seq (AW.fp ?_);refine WT.bN Z Z Z Z Z Z (λi2 bb=>?_);refine WT.az hT Z Z Z Z Z Z (λi4 bc=>?_);refine aq ?_;have U:=ED F hL g R hr hw zo P;unfold ai at U;refine WT.bE Tryz.func14 Z Z Z Z Z Z U (λF1 v I hv=>?_);obtain⟨c,rfl,hc⟩:=hv;refine aq ?_;have aa:=EL F1 (hL.mono I) g R (hr.mono I) (hw.mono I) zo P (most:=2) zo;unfold ai at aa;refine WT.jY Tryz.func19 Z Z Z Z Z Z aa (λF2 v B2 bn al=>?_);obtain⟨L,c2,hW,ab⟩:=al;have r:∀{F':aA},¬(c=1/\∃X,L=[X]/\Rl 2 L c2)->Of g w F' (.tuple ⟨[.agg ⟨[.int .i64 0,.int .i64 0,.slice none 0 0]⟩,.bool false]⟩):=λhn=>⟨_,_,_,_,_,_,rfl,λhu=>.inr ⟨rfl,λ⟨X,hX⟩=>hn (by{have e1:=(zI hc hu).1 ⟨X,hX⟩;have e2:=(zI hW.1 hu).1 ⟨X,hX⟩;have e3:=JR hg af hW hu hX;exact⟨e1,X,e3,.inr ⟨by omega,by rw[e2,e3];exact Int.le_refl 1⟩⟩})⟩⟩;rcases ab with ⟨bt,a1,n1,d1,B1,a6,bx,rfl,rfl,av,ax⟩ | ⟨hf,rfl⟩;{refine WT.aw 0 Z Z (λF3 b1 ac=>?_);have hA:bk bZ F3 a1 n1 d1 L:=ax.frozen av (λi b hm=>ac i b (Te _ hm)) (λi b hm=>ac i b (Tf _ hm));have hl:=hA.len;by_cases h1:c=1;{subst h1;refine ak ?_;refine AW.cond Z (λh=>?_) (λh=>?_);{have h2:n1≠1:=by{simp at h;omega};refine ak ?_;exact AW.ret ⟨_,[],⟨_,_,⟨_,rfl,λG h0 C=>aD (C.has (p:=1) rfl me) (aM hT rfl)⟩,⟨_,_,rfl,rfl,rfl⟩,rfl⟩,bF,rfl,r λ⟨_,X,e,_⟩=>h2 (by rw[e] at hl;exact hl)⟩};{have h2:n1=1:=by{simp at h;omega};refine ak ?_;refine WT.bh (j:=0) hT hA Z Z Z Z Z Z Z Z Z zo (λX a0 b3 ba b2 b4 b5 b6 b7 l=>?_);have J:=l;obtain⟨xr,xt,b8⟩:=X;obtain⟨xa,xn,xc,rfl,_⟩:=cz l;refine ak ?_;refine AW.ret ⟨_,[],⟨_,_,⟨_,rfl,λG h0 C=>aD (C.has (p:=1) Z me) (aM hT rfl)⟩,⟨_,_,rfl,rfl,rfl⟩,rfl⟩,bF,rfl,_,_,_,_,_,_,rfl,λhu=>.inl ⟨rfl,_,hW.valid _ (gM a0),J⟩⟩}};{refine ak ?_;refine WT.gn (v':=.bool true) 24 Z (by congr 1;simp[h1]) (ak ?_);refine AW.cond Z (λ_=>?_) (λh=>(by cases h));refine ak ?_;exact AW.ret ⟨_,[],⟨_,_,⟨_,rfl,λG h0 C=>aD (C.has (p:=1) rfl me) (aM hT rfl)⟩,⟨_,_,rfl,rfl,rfl⟩,rfl⟩,bF,rfl,r λh=>h1 h.1⟩}};{by_cases h1:c=1;{subst h1;refine ak ?_;refine AW.cond Z (λ_=>?_) (λh=>(by cases h));refine ak ?_;exact AW.ret ⟨_,[],⟨_,_,⟨_,rfl,λG h0 C=>aD (C.has (p:=1) rfl me) (aM hT rfl)⟩,⟨_,_,rfl,rfl,rfl⟩,rfl⟩,bF,rfl,r λ⟨_,X,e,ho⟩=>(by subst e;obtain⟨_,hf⟩:=hf;rcases ho with ho | ho<;>simp at ho hf<;>omega)⟩};{refine ak ?_;refine WT.gn (v':=.bool true) 24 Z (by congr 1;simp[h1]) (ak ?_);refine AW.cond Z (λ_=>?_) (λh=>(by cases h));refine ak ?_;exact AW.ret ⟨_,[],⟨_,_,⟨_,rfl,λG h0 C=>aD (C.has (p:=1) rfl me) (aM hT rfl)⟩,⟨_,_,rfl,rfl,rfl⟩,rfl⟩,bF,rfl,r λh=>h1 h.1⟩}}
def lV(l:List aS)(x:Lr)(t:Nat):Prop:=∃m,(⟨x,m⟩:aS)∈l/\m.testBit t=true
def bu:List aS->List aS->List aS
 | r::rs,x::xs=>⟨r.item,r.set ||| x.set⟩::bu rs xs
 | rs,_=>rs
theorem yR(row:List aS):bu row []=row:=by cases row<;>rfl
theorem nN:∀(row l:List aS),aH (bu row l)=aH row
 | [],l=>by cases l<;>rfl
 | r::rs,[]=>rfl
 | r::rs,x::xs=>by{have:=nN rs xs;unfold aH at this ⊢;show r.item::_=r.item::_;rw[this]}
theorem zV(row l:List aS):(bu row l).length=row.length:=by
 have:=congrArg List.length (nN row l);unfold aH at this;rwa [tj,tj] at this
theorem w6:∀{row l:List aS} {j:Nat} {r x:aS},row[j]?=some r->l[j]?=some x->bu row (l.take (j+1))=(bu row (l.take j)).set j ⟨r.item,r.set ||| x.set⟩/\(bu row (l.take j))[j]?=some r
 | [],_,_,_,_,h,_=>by simp at h
 | _::_,[],_,_,_,_,h=>by simp at h
 | r0::rs,x0::xs,0,r,x,h1,g=>by{simp only[UL,sw] at h1 g;subst h1 g;refine⟨?_,rfl⟩;show ⟨r0.item,r0.set ||| x0.set⟩::bu rs (xs.take 0)=_;rw[U4,yR];rfl}
 | r0::rs,x0::xs,j+1,r,x,h1,g=>by{have:=@w6 rs xs j r x (by simpa using h1) (by simpa using g);refine⟨?_,this.2⟩;show ⟨r0.item,r0.set ||| x0.set⟩::bu rs (xs.take (j+1))=(⟨r0.item,r0.set ||| x0.set⟩::bu rs (xs.take j)).set (j+1) _;rw[this.1];rfl}
theorem lZ:∀{row l:List aS},aH row=aH l->∀x t,lV (bu row l) x t↔lV row x t\/lV l x t
 | [],[],_,x,t=>by unfold bu;exact⟨.inl,λh=>h.elim id id⟩
 | [],_::_,h,_,_=>by cases h
 | _::_,[],h,_,_=>by cases h
 | r::rs,y::ys,h,x,t=>by{unfold aH at h;simp only[y2,T1] at h;obtain⟨h1,i⟩:=h;have o:=lZ (row:=rs) (l:=ys) i x t;obtain⟨ri,p⟩:=r;obtain⟨I,ym⟩:=y;dsimp only at h1;subst h1;have j:∀(z:aS) (l:List aS),lV (z::l) x t↔(z.item=x/\z.set.testBit t=true)\/lV l x t:=λz l=>by{obtain⟨zi,C⟩:=z;constructor;{rintro⟨m,hm,g⟩;rcases PJ.1 hm with e | e;{simp only[aS.mk.injEq] at e;exact .inl ⟨e.1.symm,by rw[<-e.2];exact g⟩};{exact .inr ⟨m,e,g⟩}};{rintro(⟨h1,i⟩ | ⟨m,hm,g⟩);{exact⟨C,by dsimp only at h1;rw[h1];exact D2 ..,i⟩};{exact⟨m,mb _ hm,g⟩}}};show lV (⟨ri,p ||| ym⟩::bu rs ys) x t↔_;rw[j,j,j,o];dsimp only;rw[Ui,T7];constructor;{rintro(⟨h3,h4 | h4⟩ | h3 | h3);{exact .inl (.inl ⟨h3,h4⟩)};{exact .inr (.inl ⟨h3,h4⟩)};{exact .inl (.inr h3)};{exact .inr (.inr h3)}};{rintro((⟨h3,h4⟩ | h3) | (⟨h3,h4⟩ | h3));{exact .inl ⟨h3,.inl h4⟩};{exact .inr (.inl h3)};{exact .inl ⟨h3,.inr h4⟩};{exact .inr (.inr h3)}}}
theorem s6{B:Nat}:∀{row l:List aS},(∀x∈row,x.set<2 ^ B)->(∀x∈l,x.set<2 ^ B)->∀x∈bu row l,x.set<2 ^ B
 | [],l,h,_,x,g=>by cases l<;>exact h x g
 | r::rs,[],h,_,x,g=>h x g
 | r::rs,y::ys,h1,i,x,g=>by{rcases PJ.1 g with e | e;{rw[e];exact UN (h1 r me) (i y me)};{exact s6 (λx g=>h1 x (mb _ g)) (λx g=>i x (mb _ g)) x e}}
def nu(l:List aS):Nat:=(l.map λx=>512-x.set).sum
def po(L:List (List aS)):Nat:=(L.map nu).sum
theorem oT:∀{row l:List aS},(∀x∈row,x.set<512)->(∀x∈bu row l,x.set<512)->nu (bu row l)<=nu row/\(bu row l≠row->nu (bu row l)<nu row)
 | [],l,_,_=>by cases l<;>exact⟨mc _,λh=>absurd rfl h⟩
 | r::rs,[],_,_=>⟨mc _,λh=>absurd rfl h⟩
 | r::rs,y::ys,h1,j=>by{obtain⟨p,a2⟩:=oT (row:=rs) (l:=ys) (λx g=>h1 x (mb _ g)) (λx g=>j x (mb _ g));have t:=h1 r me;have C:r.set ||| y.set<512:=j ⟨r.item,r.set ||| y.set⟩ me;have I:r.set<=r.set ||| y.set:=Nat.left_le_or;show (512-(r.set ||| y.set))+nu (bu rs ys)<=(512-r.set)+nu rs/\((⟨r.item,r.set ||| y.set⟩::bu rs ys:List aS)≠r::rs->(512-(r.set ||| y.set))+nu (bu rs ys)<(512-r.set)+nu rs);refine⟨by omega,λi=>?_⟩;by_cases e:r.set ||| y.set=r.set;{have:bu rs ys≠rs:=λo=>i (by rw[e,o]);have:=a2 this;omega};{omega}}
theorem BQ{L:List (List aS)}{k:Nat}{row row':List aS}(h:L[k]?=some row):po (L.set k row')+nu row=po L+nu row':=by
 unfold po;rw[T9];exact uK (by rw[zy,h];rfl)
theorem Ei{S:List (List aS)}{s:Nat}{x:Lr}{t:Nat}:rl S s x t↔∃st,S[s]?=some st/\lV st x t:=
 ⟨λ⟨st,m,h1,g,i⟩=>⟨st,h1,m,g,i⟩,λ⟨st,h1,m,g,i⟩=>⟨st,m,h1,g,i⟩⟩
theorem mj{L:List (List aS)}{k:Nat}{row l:List aS}(hk:L[k]?=some row)(hi:aH row=aH l){s:Nat}{x:Lr}{t:Nat}:rl (L.set k (bu row l)) s x t↔rl L s x t\/(s=k/\lV l x t):=by
 have i:=(gS hk).1;rw[Ei,Ei];by_cases e:s=k;{subst e;rw[xk i];constructor;{rintro⟨st,h1,g⟩;obtain rfl:=aE h1;rcases (lZ hi x t).1 g with h3 | h3;{exact .inl ⟨row,hk,h3⟩};{exact .inr ⟨rfl,h3⟩}};{rintro(⟨st,h1,g⟩ | ⟨_,g⟩);{rw[hk] at h1;obtain rfl:=aE h1;exact⟨_,rfl,(lZ hi x t).2 (.inl g)⟩};{exact⟨_,rfl,(lZ hi x t).2 (.inr g)⟩}}};{rw[yf (λj=>e j.symm)];exact⟨.inl,λh=>h.resolve_right λg=>e g.1⟩}
section
variable {g:aj}{I:List (List Lr)}{rows:List (List Int)}
structure Bp(g:aj)(I:List (List Lr))(rows:List (List Int))(L:List (List aS)):Prop where
 items:L.map aH=I
 small:∀st∈L,∀x∈st,x.set<2 ^ (g.ae+1)
 snd:∀s x t,rl L s x t->ky g I rows s x t
 pass:∀s x t k r,rl L s x t->bw g x=some ⟨false,r.left⟩->g.rules[k]?=some r->fI g (dn g x)->rl L s ⟨k,0⟩ t
def Hw(g:aj)(rows:List (List Int))(L:List (List aS))(s:Nat)(y:Sym):Prop:=∀s' st,eZ g rows s y=some s'->L[s]?=some st->∀z t,xG g (cR g st y) z t->rl L s' z t
def lu(L:List (List aS))(s:Nat):Prop:=∀x t,¬rl L s x t
theorem Bp.it{L:List (List aS)}(h:Bp g I rows L){s:Nat}{x:Lr}{t:Nat}(i:rl L s x t):th I s x:=by
 obtain⟨st,m,h1,j,_⟩:=i;refine⟨aH st,?_,x6.2 ⟨_,j,rfl⟩⟩;rw[<-h.items,zy,h1];rfl
theorem Bp.put{L:List (List aS)}(h:Bp g I rows L){k:Nat}{row l:List aS}(hk:L[k]?=some row)(hi:aH row=aH l)(U:∀x∈l,x.set<2 ^ (g.ae+1))
  (hs:∀x t,lV l x t->ky g I rows k x t) (hp:∀x t j r,lV l x t->bw g x=some ⟨false,r.left⟩->g.rules[j]?=some r->fI g (dn g x)->lV l ⟨j,0⟩ t):Bp g I rows (L.set k (bu row l)):=by
 have p:=(gS hk).1;refine⟨?_,λst C=>?_,λs x t o=>?_,λs x t j r o h1 P R=>?_⟩;{rw[<-h.items,T9,nN];apply Tn;intro i;by_cases e:i=k;{subst e;rw[xk (by simpa using p),zy,hk];rfl};{rw[yf (λe2=>e e2.symm)]}};{rcases Uq C with h1 | h1;{exact h.small st h1};{rw[h1];exact s6 (h.small row (gM hk)) U}};{rcases (mj hk hi).1 o with h1 | ⟨rfl,h1⟩;{exact h.snd _ _ _ h1};{exact hs _ _ h1}};{rw[mj hk hi] at o ⊢;rcases o with J | ⟨rfl,J⟩;{exact .inl (h.pass _ _ _ _ _ J h1 P R)};{exact .inr ⟨rfl,hp _ _ _ _ J h1 P R⟩}}
theorem iE(i:Valid g){l:List aS}(j:∀x∈aH l,gj g x){z:Lr}{t:Nat}:lV (bU g l) z t↔xG g l z t:=wq i j
theorem kK{l:List aS}:∀x∈bU g l,x.set<2 ^ (g.ae+1):=λx i=>by
 obtain⟨z,_,rfl⟩:=x6.1 i;exact iH _ _
theorem y4(t:Valid g)(h:iT g=some (I,rows)){s s':Nat}{y:Sym}{st:List Lr}(j:eZ g rows s y=some s')(hs:I[s]?=some st):I[s']?=some (fv g (iM g st y)):=by
 obtain⟨C,J⟩:=fS h;obtain⟨st2,i,p,r,_,R⟩:=C.goes t j;rw[hs] at p;obtain rfl:=aE p;have l:gu i:=J.all (P:=gu) (jk g _) (λa b _ U=>by{obtain⟨y,_,o⟩:=x6.1 U;split at o;{cases o};{obtain rfl:=aE o;exact jk g _}}) s' i r;rw[r,tC (λx hx=>(fE x hx).1) l R]
theorem Bp.goto(hg:Valid g)(af:iT g=some (I,rows)){L:List (List aS)}(h:Bp g I rows L){s s':Nat}{y:Sym}(i:eZ g rows s y=some s'){st row:List aS}(hs:L[s]?=some st)(hk:L[s']?=some row)(ag:¬lu L s) :
  aH row=aH (bU g (cR g st y))/\Bp g I rows (L.set s' (bu row (bU g (cR g st y)))):=by
 have P:I[s]?=some (aH st):=by{rw[<-h.items,zy,hs];rfl};have R:I[s']?=some (aH row):=by{rw[<-h.items,zy,hk];rfl};have hex:=y4 hg af i P;rw[R] at hex;have hi:aH row=aH (bU g (cR g st y)):=by{rw[dp,eL];exact aE hex};have l:∀x∈aH (cR g st y),gj g x:=λx p=>by{rw[eL] at p;exact(fE x p).1};refine⟨hi,h.put hk hi kK (λx t C=>?_) (λx t j r C h1 h2 h3=>?_)⟩;{rw[iE hg l] at C;have U:∀{x:Lr},iJ g (aH (cR g st y)) x->th I s' x:=λ{x} p=>⟨aH row,R,by rw[hi,dp];exact(cV l).2 p⟩;have o:∃v u,rl L s v u:=by{refine Classical.byContradiction λhn=>ag λx t p=>hn ⟨x,t,p⟩};obtain⟨v,u,aa⟩:=o;induction C with| base h4 h5 _=>{obtain⟨x0,J,h7,rfl⟩:=qQ.1 h4;exact .goto (h.snd _ _ _ ⟨st,_,hs,J,h5⟩) ⟨aH st,P,x6.2 ⟨_,J,rfl⟩⟩ h7 i}| uU h4 h5 J h7=>{exact .uU (h.snd _ _ _ aa) (h.it aa) i (U h4) h5 J h7}| pass h4 h5 J h7 _ ih=>{exact .pass ih (U h4) h5 J h7}};{rw[iE hg l] at C ⊢;exact .pass C.Bi h1 h2 h3 C}
theorem Bp.zero(J:True):Bp g I rows (I.map λst=>st.map λx=>(⟨x,0⟩:aS))/\∀s,lu (I.map λst=>st.map λx=>(⟨x,0⟩:aS)) s:=by
 have i:∀s x t,¬rl (I.map λst=>st.map λx=>(⟨x,0⟩:aS)) s x t:=λs x t ⟨st,m,h1,P,p⟩=>by{rw[zy] at h1;cases C:I[s]? with| none=>{rw[C] at h1;cases h1}| some j=>{rw[C] at h1;obtain rfl:=aE h1;obtain⟨x0,_,e⟩:=x6.1 P;simp only[aS.mk.injEq] at e;rw[<-e.2] at p;simp at p}};refine⟨⟨?_,λst l x R=>?_,λs x t o=>absurd o (i s x t),λs x t k r o=>absurd o (i s x t)⟩,i⟩;{rw[Us];have:(aH ∘ λst:List Lr=>st.map λx=>(⟨x,0⟩:aS))=id:=by{funext st;show (st.map λx=>(⟨x,0⟩:aS)).map (·.item)=st;rw[Us];exact List.map_id _};rw[this,List.map_id]};{obtain⟨j,_,rfl⟩:=x6.1 l;obtain⟨x0,_,rfl⟩:=x6.1 R;exact Uv _}
def Started(g:aj)(L:List (List aS)):Prop:=∀z t,xG g [⟨⟨g.rules.length,0⟩,2 ^ g.ae⟩] z t->rl L 0 z t
theorem qR:∀x∈aH [(⟨⟨g.rules.length,0⟩,2 ^ g.ae⟩:aS)],gj g x:=λx i=>iZ x i
theorem Bp.start(P:Valid g)(R:iT g=some (I,rows)){L:List (List aS)}(h:Bp g I rows L){row:List aS}(hk:L[0]?=some row) :
  aH row=aH (ez g)/\Bp g I rows (L.set 0 (bu row (ez g)))/\Started g (L.set 0 (bu row (ez g)))/\rl (L.set 0 (bu row (ez g))) 0 ⟨g.rules.length,0⟩ g.ae:=by
 obtain⟨hA,hN⟩:=fS R;have o:I[0]?=some (aH row):=by{rw[<-h.items,zy,hk];rfl};have hi:aH row=aH (ez g):=by{have:=hN.first;rw[o] at this;unfold ez;rw[dp];exact aE this};have p:∀{x:Lr},iJ g (aH [(⟨⟨g.rules.length,0⟩,2 ^ g.ae⟩:aS)]) x->th I 0 x:=λ{x} hx=>⟨aH row,o,by rw[hi];unfold ez;rw[dp];exact(cV qR).2 hx⟩;have hI:=h.put hk hi kK (λx t i=>?_) (λx t j r i h1 h2 h3=>?_);{have C:Started g (L.set 0 (bu row (ez g))):=λz t i=>(mj hk hi).2 (.inr ⟨rfl,(iE P qR).2 i⟩);exact⟨hi,hI,C,C _ _ (.base (TW _) (by rw[Nat.testBit_two_pow_self]) (mc _))⟩};{rw[show ez g=bU g _ from rfl,iE P qR] at i;induction i with| base J l _=>{have e:=ti.1 J;simp only[aS.mk.injEq] at e;obtain⟨rfl,rfl⟩:=e;rw[Vk] at l;have:g.ae=_:=Ue l;rw[<-this];exact .start}| uU J l U h7=>{exact .Mg (p J) l U h7}| pass J l U h7 _ ih=>{exact .pass ih (p J) l U h7}};{rw[show ez g=bU g _ from rfl,iE P qR] at i ⊢;exact .pass i.Bi h1 h2 h3 i}
theorem Bp.done(hg:Valid g)(ac:iT g=some (I,rows)){L:List (List aS)}(h:Bp g I rows L)(ad:Started g L)(hc:∀s,lu L s\/∀y,Hw g rows L s y):L=kG g I (ky g I rows):=by
 obtain⟨hA,hN⟩:=fS ac;obtain⟨bn,af,hz⟩:=hA.zero;have o:∀{s:Nat} {x:Lr} {t:Nat},ky g I rows s x t->rl L s x t:=by{intro s x t hl;have ag:∀{s s':Nat} {v:Lr} {u:Nat} {y:Sym},rl L s v u->eZ g rows s y=some s'->∃st,L[s]?=some st/\I[s]?=some (aH st)/\∀z t,xG g (cR g st y) z t->rl L s' z t:=λ{s s' v u y} h1 U=>by{obtain⟨st,m,i,_,_⟩:=id h1;exact⟨st,i,by rw[<-h.items,zy,i];rfl,(hc s).resolve_left (λhz=>hz _ _ h1) y s' st U i⟩};induction hl with| start=>{exact ad _ _ (.base (TW _) (by rw[Nat.testBit_two_pow_self]) (mc _))}| goto h1 U i r ih=>{obtain⟨st,j,_,C⟩:=ag ih r;obtain⟨J,m,e3,e4,e5⟩:=id ih;rw[j] at e3;obtain rfl:=aE e3;exact C _ _ (.base (qQ.2 ⟨_,e4,i,rfl⟩) e5 (h1.le hg))}| Mg h1 U i r=>{obtain⟨J,j,C⟩:=h1;rw[af] at j;obtain rfl:=aE j;exact ad _ _ (.uU ((hz _).1 C) U i r)}| uU h1 U i r h5 h6 h7 ih=>{obtain⟨st,j,e3,C⟩:=ag ih i;obtain⟨J,e4,e5⟩:=r;have hex:=y4 hg ac i e3;rw[e4] at hex;obtain rfl:=aE hex;refine C _ _ (.uU ?_ h5 h6 h7);rw[eL];exact(cV λx R=>(fE x R).1).1 e5}| pass h1 U i r h5 ih=>{exact h.pass _ _ _ _ _ ih i r h5}};apply Tn;intro s;rw[mK];cases hL:L[s]? with| none=>{have:I[s]?=none:=by{rw[<-h.items,zy,hL];rfl};rw[this];rfl}| some st=>{have an:I[s]?=some (aH st):=by{rw[<-h.items,zy,hL];rfl};rw[an];simp only[Tq,sw];have ao:(aH st).Nodup:=(hN.all (P:=gu) (jk g _) (λa b _ hb=>by{obtain⟨y,_,hy⟩:=x6.1 hb;split at hy;{cases hy};{obtain rfl:=aE hy;exact jk g _}}) s _ an).Hs;unfold aH at ao ⊢;rw[Us];have ar:∀x∈st,x=(⟨x.item,bB (ky g I rows s x.item) (g.ae+1)⟩:aS):=λx R=>by{obtain⟨xi,xm⟩:=x;simp only[aS.mk.injEq,Vd];refine BF (h.small st (gM hL) _ R) λt=>⟨λht=>?_,λht=>?_⟩;{have:=h.snd s xi t ⟨st,xm,hL,R,ht⟩;exact⟨Nat.lt_succ_of_le (this.le hg),this⟩};{obtain⟨J,m,j,C,e3⟩:=o ht.2;rw[hL] at j;obtain rfl:=aE j;have:m=xm:=by{have ba:=U0.1 ao;refine Classical.byContradiction λbb=>?_;obtain⟨p,hp⟩:=Um R;obtain⟨q,hq⟩:=Um C;have ax:=(gS hp).1;have ay:=(gS hq).1;have bt:p≠q:=λe=>by{subst e;rw[hp] at hq;simp only[sw,aS.mk.injEq,Vd] at hq;exact bb hq.symm};have ep:st[p]=⟨xi,xm⟩:=(gS hp).2;have a0:st[q]=⟨xi,m⟩:=(gS hq).2;have l:=TS.1 ba;rcases IN p q with h6 | h6;{exact l p q ax ay h6 (by rw[ep,a0])};{exact l q p ay ax zo (by rw[ep,a0])}};rw[<-this];exact e3}};have:st.map (λx=>(⟨x.item,bB (ky g I rows s x.item) (g.ae+1)⟩:aS))=st:=by{(conv=>rhs;rw[<-List.map_id st]);exact Uc λx R=>(ar x R).symm};exact this.symm}
end
def dW(l:List UInt8):ByteArray:=⟨l.toArray⟩
theorem KO{a b:List UInt8}(h:dW a=dW b):a=b:=by
 have:=congrArg (λx:ByteArray=>x.data.toList) h;exact this
theorem iY(a b:List UInt8):dW a++dW b=dW (a++b):=by
 apply ByteArray.ext;rw[ByteArray.data_append];unfold dW;simp
theorem gF(a:List UInt8):(dW a).size=a.length:=by unfold dW ByteArray.size;simp
def xb(x:UInt8):Prop:=48<=x.toNat/\x.toNat<=57
def fh(n:Nat):List UInt8:=if n<10 then [UInt8.ofNat (48+n)] else [UInt8.ofNat (48+n / 10),UInt8.ofNat (48+n % 10)]
theorem kU{n:Nat}(h:n<100):∀x∈fh n,xb x:=by
 intro x hx;unfold fh at hx;unfold xb;split at hx;{rw[ti.1 hx,UInt8.toNat_ofNat'];omega};{rcases PJ.1 hx with rfl | hx;{rw[UInt8.toNat_ofNat'];omega};{rw[ti.1 hx,UInt8.toNat_ofNat'];omega}}
theorem H0{a b:Nat}(g:a<256)(i:b<256)(h:UInt8.ofNat a=UInt8.ofNat b):a=b:=by
 have:=congrArg UInt8.toNat h;rw[UInt8.toNat_ofNat',UInt8.toNat_ofNat'] at this;omega
theorem vJ{n m:Nat}(g:n<100)(hm:m<100)(h:fh n=fh m):n=m:=by
 unfold fh at h;split at h<;>split at h;{have:=H0 zo zo (TR h);omega};{exact absurd (congrArg List.length h) (by simp)};{exact absurd (congrArg List.length h) (by simp)};{have h1:=H0 zo zo (TR h);have i:=H0 zo zo (TR (Vm h));omega}
theorem qS:∀{a b r s:List UInt8} {c d:UInt8},(∀x∈a,xb x)->(∀x∈b,xb x)->¬xb c->¬xb d->a++c::r=b++d::s->a=b/\c=d/\r=s
 | [],[],r,s,c,d,_,_,_,_,h=>by{exact⟨rfl,TR h,Vm h⟩}
 | [],y::b,r,s,c,d,_,g,i,_,h=>by{have:=TR h;exact absurd (this▸g y me) i}
 | x::a,[],r,s,c,d,j,_,_,l,h=>by{have:=TR h;exact absurd (this▸j x me) l}
 | x::a,y::b,r,s,c,d,j,g,i,l,h=>by{have h1:=TR h;have p:=Vm h;obtain⟨t,C,I⟩:=qS (λz o=>j z (mb _ o)) (λz o=>g z (mb _ o)) i l p;exact⟨by rw[h1,t],C,I⟩}
theorem uW{c:UInt8}(h:c=46\/c=32\/c=59):¬xb c:=by
 rcases h with rfl | rfl | rfl<;>(unfold xb;decide)
def lC(x:Lr):List UInt8:=fh x.aB++46::fh x.dot
def yU(x:aS):List UInt8:=lC x.item++32::fh x.set
def dw{σ:Type}(key:σ->List UInt8):List σ->List UInt8
 | []=>[]
 | x::l=>key x++59::dw key l
theorem nG{σ:Type}(key:σ->List UInt8)(x:σ):∀l:List σ,dw key (l++[x])=dw key l++(key x++[59])
 | []=>by simp[dw]
 | y::l=>by simp[dw,nG key x l]
theorem vG{σ:Type}{key:σ->List UInt8}{P:σ->Prop}(h:∀x y r s,P x->P y->key x++59::r=key y++59::s->x=y/\r=s):∀{l m:List σ},(∀x∈l,P x)->(∀x∈m,P x)->dw key l=dw key m->l=m
 | [],[],_,_,_=>rfl
 | [],y::m,_,_,e=>by exact absurd (congrArg List.length e) (by simp[dw])
 | x::l,[],_,_,e=>by exact absurd (congrArg List.length e) (by simp[dw])
 | x::l,y::m,i,hm,e=>by{obtain⟨h1,j⟩:=h x y _ _ (i x me) (hm y me) e;rw[h1,vG h (λz g=>i z (mb _ g)) (λz g=>hm z (mb _ g)) j]}
theorem BC(x y:Lr)(c:UInt8)(r s:List UInt8)(j:c=46\/c=32\/c=59)(g:x.aB<100/\x.dot<100)(i:y.aB<100/\y.dot<100)(h:lC x++c::r=lC y++c::s):x=y/\r=s:=by
 unfold lC at h;rw[By,By] at h;have h:fh x.aB++46::(fh x.dot++c::r)=fh y.aB++46::(fh y.dot++c::s):=h;obtain⟨h1,_,p⟩:=qS (kU g.1) (kU i.1) (uW (.inl rfl)) (uW (.inl rfl)) h;obtain⟨t,_,C⟩:=qS (kU g.2) (kU i.2) (uW j) (uW j) p;have l:=vJ g.1 i.1 h1;have o:=vJ g.2 i.2 t;obtain⟨a,b⟩:=x;obtain⟨I,b'⟩:=y;simp only at l o;subst l o;exact⟨rfl,C⟩
theorem J2{l m:List Lr}(g:∀x∈l,x.aB<100/\x.dot<100)(hm:∀x∈m,x.aB<100/\x.dot<100)(h:dw lC l=dw lC m):l=m:=
 vG (P:=λx:Lr=>x.aB<100/\x.dot<100) (λx y r s i j e=>BC x y 59 r s (.inr (.inr rfl)) i j e) g hm h
theorem Ke{l m:List aS}(o:∀x∈l,(x.item.aB<100/\x.item.dot<100)/\x.set<100)(hm:∀x∈m,(x.item.aB<100/\x.item.dot<100)/\x.set<100)(h:dw yU l=dw yU m):l=m:=
 vG (P:=λx:aS=>(x.item.aB<100/\x.item.dot<100)/\x.set<100) (λx y r s g i e=>by{unfold yU at e;rw[By,By] at e;have e:lC x.item++32::(fh x.set++59::r)=lC y.item++32::(fh y.set++59::s):=e;obtain⟨h1,p⟩:=BC x.item y.item 32 _ _ (.inr (.inl rfl)) g.1 i.1 e;obtain⟨t,_,C⟩:=qS (kU g.2) (kU i.2) (uW (.inr (.inr rfl))) (uW (.inr (.inr rfl))) p;have j:=vJ g.2 i.2 t;obtain⟨a,b⟩:=x;obtain⟨I,b'⟩:=y;simp only at h1 j;subst h1 j;exact⟨rfl,C⟩}) o hm h
theorem bytes_beq(x y:ByteArray):(x==y)=true↔x=y:=by
 constructor;{intro h;obtain⟨x⟩:=x;obtain⟨y⟩:=y;have:(x==y)=true:=h;congr 1;exact eq_of_beq this};{rintro rfl;obtain⟨x⟩:=x;show (x==x)=true;exact beq_self_eq_true x}
theorem IK:CC.iL 9=some .string:=nY hT (r:=⟨9,.string,1,16,.string ByteArray.empty⟩) rfl rfl
def AL:qd CC 9 (List UInt8) where
 key:=λl=>.string (dW l)
 ok:=λl=>by
  unfold eD;simp only[IK];rfl
 eq:=λa b=>by
  have h:rD CC 8 9 (.string (dW a)) (.string (dW b))=some (dW a==dW b):=by
   unfold rD;simp only[IK];rfl
  by_cases e:a=b
  ·subst e;exact .inl ⟨rfl,by rw[h,(bytes_beq _ _).2 rfl]⟩
  ·have g:(dW a==dW b)=false:=by
    cases i:(dW a==dW b) with
    | false=>rfl
    | true=>exact absurd (KO ((bytes_beq _ _).1 i)) e
   exact .inr ⟨e,by rw[h,g]⟩
end Go.Proofs.D
set_option linter.unusedVariables false
set_option maxRecDepth 20000
set_option maxHeartbeats 0
open Go Go.Abs Go.Proofs Go.Proofs.D
namespace Go.Abs
section
variable {C:Ctx}{T:RT}{n:Nat}{k:ck}{F:aA}{own:bA}{ops rest:List Oper}{o:Oper}{Q:ck->aA->bA->List Rec->Prop}
theorem WT.Fu(hT:aU C T=true){t:TypeId}{J lo hi:Operand}{s:ByteArray}{j m:Nat}{R I:IntKind}{r:Row}(a b:Nat->Nat)(f:Nat->List UInt8)(g:o.op=.slice t J (some lo) (some hi) none)(hw:aL ops k o=some true){dst:Nat}(i:o.dst=some dst)(U:Nat.blt dst n=true)
  (P:bg C k J=some (.string s)) (hl:bg C k lo=some (.int R (a j:Nat))) (hh:bg C k hi=some (.int I (b j:Nat))) (hr:rowOf T t=some r) (hd:r.d=.string) (hj:j<m)
  (p:((List.range m).all λj=>Nat.ble (a j) (b j)&&Nat.ble (b j) s.size&&((s.extract (a j) (b j)).data.toList==f j))=true)
  (h:WT C n ops rest ((dst,.string ⟨(f j).toArray⟩)::k) F own (λk2 F2 own2 rs=>Q k2 F2 own2 (⟨F,own,F,own,[]⟩::rs))):WT C n ops (o::rest) k F own Q:=by
 have h1:=TM.1 p j (Tz.2 hj);simp only[tx,T5] at h1;obtain⟨⟨h2,h3⟩,h4⟩:=h1;have h5:s.extract (a j) (b j)=⟨(f j).toArray⟩:=by{apply ByteArray.ext;rw[<-h4]};refine WT.still (l:=[]) hw (by rw[g];simp only[bl,P]) (λh0 _=>?_) (by rw[i,aC U];exact h);rw[g];have h6:mC (bg C k) none=some none:=rfl;simp only[aW,P,mC,hl,hh,ik,nY hT hr hd,di,Tq];rw[n0 (U6 _),n0 (U6 _),Vu,Vu];simp only[h2,h3,Uh,xf,h5,Tq]
theorem WT.vw{t ty:TypeId}{j p:Operand}{a b:ByteArray}(g:o.op=.binOp .add t j p ty)(hw:aL ops k o=some true){dst:Nat}(i:o.dst=some dst)(J:Nat.blt dst n=true)
  (r:bg C k j=some (.string a)) (I:bg C k p=some (.string b)) (hs:a.size+b.size<=9223372036854775807)
  (h:WT C n ops rest ((dst,.string (a++b))::k) F own (λk2 P own2 rs=>Q k2 P own2 (⟨F,own,F,own,[]⟩::rs))):WT C n ops (o::rest) k F own Q:=by
 refine WT.still (l:=[]) hw (by rw[g];simp only[bl,r,I];rfl) (λU _=>?_) (by rw[i,aC J];exact h);rw[g];have R:Nat.ble (a.size+b.size) 9223372036854775807=true:=Tj hs;simp only[aW,r,I,mw,nI,R,xf,Tq]
end
end Go.Abs
namespace Go.Proofs.D
theorem Qf:BinOp.mul≠.shl/\BinOp.mul≠.shr:=⟨λh=>(by cases h),λh=>(by cases h)⟩
theorem Oo{i:Nat}(h:2*i<=9223372036854775807):fF .mul .i64 (i:Int) 2=some (.int .i64 ((2*i:Nat):Int)):=by
 simp only[fF];rw[wrap64 ⟨by omega,by omega⟩];congr 2;omega
theorem H7(F:aA)(i:Nat)(hi:i<100):Abs.Spec CC 166 [.int .i64 i] F [] λ_ v o=>o=[]/\v=.string (dW (fh i)):=by
 refine Abs.Spec.fn (n:=15) Tryz.func166 rfl rfl λown=>?_;refine ak ?_;refine AW.cond Z (λh=>?_) (λh=>?_);{have h:i<10:=by{simp at h;omega};refine ak ?_;refine WT.Fu hT (j:=i) (m:=10) (λj=>j) (λj=>j+1) fh Z Z Z Z Z Z Z Z Z h (by decide +kernel) (ak ?_);exact AW.ret ⟨_,[],⟨_,_,rfl,rfl,rfl⟩,bF,rfl,rfl⟩};{have h:¬i<10:=by{simp at h;omega};refine ak ?_;refine WT.Qg (v:=.int .i64 ((2*i:Nat):Int)) Z Z Z Z Z Z Qf (Oo zo) (ak ?_);refine WT.Qg (v:=.int .i64 ((2*i:Nat):Int)) Z Z Z Z Z Z Qf (Oo zo) (ak ?_);refine WT.Fu hT (j:=i) (m:=100) (λj=>2*j) (λj=>2*j+2) (λj=>[UInt8.ofNat (48+j / 10),UInt8.ofNat (48+j % 10)]) Z Z Z Z Z Z Z Z Z hi (by decide +kernel) (ak ?_);refine AW.ret ⟨_,[],⟨_,_,rfl,rfl,rfl⟩,bF,rfl,?_⟩;unfold fh;rw[nw h];rfl}
theorem zK(F:aA)(i:Nat)(hi:i<100):Abs.Spec CC 149 [.int .i64 i,.int .i64 10] F [] λ_ v o=>o=[]/\v=.string (dW (fh i)):=by
 refine Abs.Spec.fn (n:=54) Tryz.func149 rfl rfl λown=>?_;refine ak ?_;refine AW.cond Z (λ_=>?_) (λh=>(by cases h));refine ak ?_;refine AW.cond Z (λ_=>?_) (λh=>(by simp at h;omega));refine ak ?_;refine WT.bj Tryz.func166 Z Z Z Z Z Z (H7 _ i hi) (λv g=>?_);subst g;refine ak ?_;exact AW.ret ⟨_,[],⟨_,_,rfl,rfl,rfl⟩,bF,rfl,rfl⟩
theorem Hj(F:aA)(i:Nat)(hi:i<100):Abs.Spec CC 124 [.int .i64 i] F [] λ_ v o=>o=[]/\v=.string (dW (fh i)):=by
 refine Abs.Spec.fn (n:=5) Tryz.func124 rfl rfl λown=>?_;refine ak ?_;refine WT.bj Tryz.func149 Z Z Z Z Z Z (zK _ i hi) (λv g=>?_);subst g;refine ak ?_;exact AW.ret ⟨_,[],⟨_,_,rfl,rfl,rfl⟩,bF,rfl,rfl⟩
theorem vz(F:aA)(i:Nat)(hi:i<100):Abs.Spec CC 95 [.int .i64 i] F [] λ_ v o=>o=[]/\v=.string (dW (fh i)):=by
 refine Abs.Spec.fn (n:=5) Tryz.func95 rfl rfl λown=>?_;refine ak ?_;refine WT.bj Tryz.func124 Z Z Z Z Z Z (Hj _ i hi) (λv g=>?_);subst g;refine ak ?_;exact AW.ret ⟨_,[],⟨_,_,rfl,rfl,rfl⟩,bF,rfl,rfl⟩
theorem kR(i:Nat):(fh i).length<=2:=by unfold fh;split<;>simp
theorem yr(F:aA)(x:Lr)(i:x.aB<100/\x.dot<100):Abs.Spec CC 94 [.agg ⟨[.int .i64 x.aB,.int .i64 x.dot]⟩] F [] λ_ v o=>o=[]/\v=.string (dW (lC x)):=by
 have h1:=kR x.aB;have l:=kR x.dot;refine Abs.Spec.fn (n:=11) Tryz.func94 rfl rfl λown=>?_;refine AW.seq (AW.fp ?_);refine WT.bN Z Z Z Z Z Z (λi1 j=>?_);refine ak ?_;refine AW.draw (ps:=[(3,6),(5,2)]) Z Z (ak ?_);refine WT.bj Tryz.func95 Z Z Z Z Z Z (vz _ x.aB i.1) (λv g=>?_);subst g;refine WT.vw Z Z Z Z Z Z (by rw[gF];show _+1<=_;omega) (ak ?_);refine WT.bj Tryz.func95 Z Z Z Z Z Z (vz _ x.dot i.2) (λv g=>?_);subst g;refine WT.vw Z Z Z Z Z Z (by rw[show (dW (fh x.aB)++{ data:=#[46] }:ByteArray)=dW (fh x.aB)++dW [46] from rfl,iY,gF,gF,sj];show _+1+_<=_;omega) (ak ?_);refine⟨lU,?_⟩;refine AW.ret ⟨_,[],⟨_,_,rfl,rfl,rfl⟩,bF,rfl,?_⟩;show Value.string (dW (fh x.aB)++dW [46]++dW (fh x.dot))=_;rw[iY,iY,By];rfl
theorem u9(x:Lr):(lC x).length<=5:=by
 have h1:=kR x.aB;have g:=kR x.dot;unfold lC;simp only[sj,IT];omega
def Qo(g:aj)(x:Lr):Prop:=x.aB<=g.rules.length/\x.dot<=(if x.aB=g.rules.length then 1 else ((g.rules[x.aB]?).map (·.right.length)).getD 0)
theorem Df(F:aA)(g:aj)(hg:Valid g){a:Option Addr}{m c:Nat}(hr:bk cD F a m c g.rules){b:Option Addr}{n d:Nat}{l:List Lr}(hl:bk oN F b n d l)(hn:n<=1000)(ae:l=[]->b=none)(J:∀x∈l,Qo g x) :
  Abs.Spec CC 122 [.agg ⟨ai g a m c⟩,.slice b n d] F [] λF' v o=>o=[]/\∃a' m' c' zs,v=.tuple ⟨[.slice a' m' c',.int .i64 0]⟩/\bk oN F' a' m' c' zs/\m'<=n+m/\gu zs/\∀z,z∈zs↔iJ g l z:=by
 have ag:=hr.len;have a1:=hl.len;have a2:=hg.range.rules;have P:∀r∈g.rules,r.right.length<=100:=λr h=>by{have:=(hg.right r h).2.1;omega};unfold ai;refine Abs.Spec.fn (n:=50) Tryz.func122 rfl rfl λown=>?_;refine AW.seq (AW.fp ?_);refine WT.bN Z Z Z Z Z Z (λi2 a3=>?_);refine aq ?_;refine WT.bj Tryz.func48 Z Z Z Z Z Z (jx _ g hg.range hr) (λv I=>?_);rw[hg.vi] at I;subst I;refine aq ?_;refine AW.cond Z (λh=>(by cases h)) (λ_=>?_);refine aq ?_;refine AW.range (S:=Unit) (λ_=>[]) (λ_=>_) (λj _ G=>True) n () Z Z Z Z Z Z Z Z Z zo Z Z (λ_=>rfl) (λ_=>rfl) sM oR trivial ?_ ?_;{intro j _ F1 i hj _;have t:=hr.mono i;have C:=hl.mono i;refine aq ?_;refine WT.bh hT C Z Z Z Z Z Z Z Z Z zo (λx al b1 off ro cs lx hb a6 R=>?_);obtain rfl:lx=_:=R;obtain⟨a7,U⟩:=J x (gM al);refine aq ?_;refine WT.az hT Z Z Z Z Z Z (λi8 a9=>?_);refine aq ?_;refine AW.draw (ps:=[(18,22)]) Z Z (aq ?_);refine WT.split 23 Z (λh=>(by simp at h;omega)) (λ_=>?_);refine WT.split 31 Z (λh=>(by simp at h;omega)) (λ_=>?_);refine aq ?_;refine WT.split 36 Z (λh=>(by simp at h;omega)) (λ_=>?_);refine WT.bj Tryz.func90 Z Z Z Z Z Z (DB _ g P t zo x.aB zo) (λv I=>?_);obtain⟨rb,rn,rd,rfl,an⟩:=I;rw[<-ag] at U;rw[<-an] at U;refine aq ?_;refine⟨lU,?_⟩;refine AW.cond Z (λh=>(by simp at h;omega)) (λ_=>?_);refine aq ?_;exact⟨(),sM,cF,trivial⟩};{intro _ F1 i _;have t:=hr.mono i;have C:=hl.mono i;refine aq ?_;refine WT.bE Tryz.func98 Z Z Z Z Z Z (nW _ g P t zo C hn ae (λx hx=>(J x hx).1)) (λF2 v bb I=>?_);obtain⟨a8,m8,c8,zs,rfl,hz,ao,ar,aa⟩:=I;refine aq ?_;exact AW.ret ⟨_,[],⟨_,_,rfl,⟨_,_,rfl,rfl,rfl⟩,rfl⟩,bF,rfl,a8,m8,c8,zs,rfl,hz,ao,ar,aa⟩}
structure Tb where
 xs:List Lr
 a:Option Addr
 c:Nat
 B:List (Nat×aJ)
structure Sf where
 a:Option Addr
 m:Nat
 c:Nat
 B:List (Nat×aJ)
theorem MT{g:aj}{j:Nat}(h:j<g.ae):(cL g).take (j+1)=(cL g).take j++[⟨true,j⟩]:=by
 have:(cL g)[j]?=some ⟨true,j⟩:=o5 (y:=⟨true,j⟩) h;rw[yo,this];rfl
theorem Nx{g:aj}{j:Nat}(h:j<g.ay):(cL g).take (g.ae+j+1)=(cL g).take (g.ae+j)++[⟨false,j⟩]:=by
 have:(cL g)[j+g.ae]?=some ⟨false,j⟩:=o5 (y:=⟨false,j⟩) h;rw[Vi] at this;rw[yo,this];rfl
theorem tD(F:aA)(g:aj)(hg:Valid g){a:Option Addr}{m c:Nat} :
  Abs.Spec CC 92 [.agg ⟨ai g a m c⟩] F [] λF' v o=>o=[]/\∃a' n' c',v=.slice a' n' c'/\bk gR F' a' n' c' (cL g):=by
 have ao:=hg.range.ae;have ar:=hg.range.ay;unfold ai;refine Abs.Spec.fn (n:=29) Tryz.func92 rfl rfl λown=>?_;refine AW.seq (AW.fp ?_);refine WT.bN Z Z Z Z Z Z (λi1 av=>?_);refine ak ?_;refine AW.range (S:=Sf) (λs=>[(3,.slice s.a s.m s.c)]) (λs=>s.B::[(i1,.cells false [.int .i64 g.ae,.int .i64 g.ay,.int .i64 g.start,.slice a m c])]::own) (λj s G=>cb gR G s.a s.m s.c s.B ((cL g).take j)) g.ae ⟨none,0,0,[]⟩ Z Z Z Z Z Z Z Z Z zo rfl rfl (λ_=>rfl) (λ_=>rfl) sM (ah.flat (sh _)) (cb.cK _ _) ?_ ?_;{intro j s F1 t C l;have r:=l.len;rw[Tg,eC] at r;refine ak ?_;refine WT.bj Tryz.func121 Z Z Z Z Z Z (ND _ _) (λv I=>?_);subst I;refine WT.aR hT Z Z Z Z Z Z Z Z Z Z Z Z Z Z (λi9 J=>?_);refine WT.aZ (R:=gR) (ys:=[(⟨true,j⟩:Sym)]) hT 1 l Z (λ_=>rfl) Z Z Z Z Z Z Z Z Z Z Z (λh0 P=>aN hT P 0 Z Z Z Z) (aG.single (R:=gR) (x:=⟨true,j⟩) rfl) Z (by decide) fj (λa3 U B3 i=>?_);refine ak ?_;exact⟨⟨a3,s.m+1,U,B3⟩,sM,cF,by show cb gR _ _ _ _ _ ((cL g).take (j+1));rw[MT C];exact i⟩};{intro s F1 t l;refine ak ?_;refine AW.range (S:=Sf) (λs=>[(3,.slice s.a s.m s.c)]) (λs=>s.B::[(i1,.cells false [.int .i64 g.ae,.int .i64 g.ay,.int .i64 g.start,.slice a m c])]::own) (λj s G=>cb gR G s.a s.m s.c s.B ((cL g).take (g.ae+j))) g.ay ⟨s.a,s.m,s.c,s.B⟩ Z Z Z Z Z Z Z Z Z zo rfl rfl (λ_=>rfl) (λ_=>rfl) sM oR l ?_ ?_;{intro j s F2 ab C l;have r:=l.len;rw[Tg,eC] at r;refine ak ?_;refine WT.bj Tryz.func29 Z Z Z Z Z Z (nT _ _) (λv I=>?_);subst I;refine WT.aR hT Z Z Z Z Z Z Z Z Z Z Z Z Z Z (λi9 J=>?_);refine WT.aZ (R:=gR) (ys:=[(⟨false,j⟩:Sym)]) hT 1 l Z (λ_=>rfl) Z Z Z Z Z Z Z Z Z Z Z (λh0 P=>aN hT P 0 Z Z Z Z) (aG.single (R:=gR) (x:=⟨false,j⟩) rfl) Z (by decide) fj (λa3 U B3 i=>?_);refine ak ?_;exact⟨⟨a3,s.m+1,U,B3⟩,sM,cF,by show cb gR _ _ _ _ _ ((cL g).take (g.ae+j+1));rw[Nx C];exact i⟩};{intro s F2 ab l;rw[qs (by rw[eC];exact mc _)] at l;refine AW.aw 0 Z Z (λF3 ac i=>?_);refine ak ?_;exact AW.ret ⟨_,[],⟨_,_,rfl,rfl,rfl⟩,bF,rfl,_,_,_,rfl,l.frozen ac i⟩}}
noncomputable def Ir(g:aj)(st:List Lr)(y:Sym):Option (List Lr):=if iM g st y=[] then none else some (fv g (iM g st y))
theorem Jr{g:aj}{st:List Lr}{y:Sym}{j:Nat}{x:Lr}(h:st[j]?=some x):iM g (st.take (j+1)) y=iM g (st.take j) y++(if bw g x=some y then [⟨x.aB,x.dot+1⟩] else []):=by
 unfold iM;rw[yo,h,Vz];congr 1;simp only[Vr,Vl,List.filterMap_nil];by_cases e:bw g x=some y;{rw[n0 e,n0 e]};{rw[nw e,nw e]}
structure SC where
 a:Option Addr
 m:Nat
 c:Nat
 B:List (Nat×aJ)
 l:List Lr
theorem HX(F:aA)(g:aj)(hg:Valid g){ig:Nat}{ro:Bool}{a:Option Addr}{m c:Nat}(hi:F ig=some (.cells ro (ai g a m c)))(hr:bk cD F a m c g.rules){b:Option Addr}{n d:Nat}{st:List Lr}(ao:bk oN F b n d st)(hn:n<=1000)(ba:∀x∈st,gj g x)(y:Sym)(hy:cP g.ae g.ay y) :
  Abs.Spec CC 99 [.slice b n d,.agg ⟨[.bool y.term,.int .i64 y.n]⟩,.pointer (some ⟨ig,0,none⟩)] F [] λF' v o=>o=[]/\∃a' n' c' z s,v=.tuple ⟨[.slice a' n' c',.bool z]⟩/\bk oN F' a' n' c' s/\Ir g st y=if z=true then some s else none:=by
 have b5:=hg.range.rules;have b6:=hr.len;have b7:=ao.len;have P:∀r∈g.rules,r.right.length<=100:=λr h=>by{have:=(hg.right r h).2.1;omega};unfold ai at hi;obtain⟨U,yn⟩:=y;refine Abs.Spec.fn (n:=46) Tryz.func99 rfl rfl λown=>?_;refine AW.seq (AW.fp ?_);refine WT.bN Z Z Z Z Z Z (λi4 b8=>?_);refine ak ?_;refine AW.range (S:=SC) (λs=>[(7,.slice s.a s.m s.c)]) (λs=>s.B::[(i4,.cells false [.bool U,.int .i64 yn])]::own) (λj s G=>cb oN G s.a s.m s.c s.B s.l/\s.l=iM g (st.take j) ⟨U,yn⟩/\s.m<=j/\(s.l=[]->s.a=none)) n ⟨none,0,0,[],[]⟩ Z Z Z Z Z Z Z Z Z zo rfl rfl (λ_=>rfl) (λ_=>rfl) sM (ah.flat (sh _)) ⟨cb.cK _ _,rfl,mc _,λ_=>rfl⟩ ?_ ?_;{intro j s F1 t hj hP;obtain⟨hb,i,bc,I⟩:=hP;have ar:=ao.mono t;have bd:=hr.mono t;have av:=t _ _ hi;refine ak ?_;refine WT.bh hT ar Z Z Z Z Z Z Z Z Z zo (λx ax b1 off b9 cs lx cc cf a0=>?_);obtain rfl:lx=_:=a0;have a1:=ba x (gM ax);have ac:=Jr (g:=g) (y:=⟨U,yn⟩) ax;refine ak ?_;refine WT.az hT Z Z Z Z Z Z (λi9 ch=>?_);refine ak ?_;have a2:=iR F1 g P bd zo x (by have:=a1.1;omega);unfold ai at a2;refine WT.bj Tryz.func96 Z Z Z Z Z Z a2 (λv hv=>?_);obtain⟨z,bo,rfl,C,ad⟩:=hv;obtain⟨zt,zn⟩:=z;refine ak ?_;refine WT.az hT Z Z Z Z Z Z (λi10 b2=>?_);refine ak ?_;have J:=hb.len;refine WT.split 25 Z (λaf=>?_) (λaf=>?_);{have C:=C af;refine ak ?_;refine AW.cond Z (λh=>?_) (λh=>?_);{have e:(⟨zt,zn⟩:Sym)=⟨U,yn⟩:=by{simp only[Vn,tx,T5] at h;obtain⟨h1,h2⟩:=h;subst h1;congr 1;omega};rw[e] at C;have cp:x.dot<=100:=by{have:=a1.2;have h2:(bL g x.aB).length<=100:=by{unfold bL;split;{simp};{cases hq:g.rules[x.aB]? with| none=>{simp}| some r=>{exact P r (gM hq)}}};omega};refine ak ?_;refine WT.aR hT Z Z Z Z Z Z Z Z Z Z Z Z Z Z (λi37 b3=>?_);refine WT.aZ (R:=oN) (ys:=[(⟨x.aB,x.dot+1⟩:Lr)]) hT 3 hb Z (λ_=>rfl) Z Z Z Z Z Z Z Z Z Z Z (λh0 s0=>aN hT s0 0 Z Z Z Z) (aG.single (R:=oN) (x:=⟨x.aB,x.dot+1⟩) rfl) Z (by decide) fj (λa3 c3 B3 bi=>?_);refine ak ?_;refine⟨⟨a3,s.m+1,c3,B3,s.l++[⟨x.aB,x.dot+1⟩]⟩,sM,cF,bi,?_,by dsimp only;omega,λe=>absurd e (by simp)⟩;show s.l++_=_;rw[ac,n0 C,i]};{have ag:¬bw g x=some ⟨U,yn⟩:=λe=>by{rw[C] at e;have e:=aE e;simp only[Sym.mk.injEq] at e;rw[e.1,e.2] at h;simp at h};refine ak ?_;refine⟨s,sM,cF,hb,?_,by omega,I⟩;rw[ac,nw ag,Tx];exact i}};{have ad:=ad af;have ag:¬bw g x=some ⟨U,yn⟩:=λe=>by{rw[ad] at e;cases e};refine ak ?_;refine AW.cond Z (λh=>(by cases h)) (λ_=>?_);refine ak ?_;refine⟨s,sM,cF,hb,?_,by omega,I⟩;rw[ac,nw ag,Tx];exact i}};{intro s F1 t hP;obtain⟨hb,i,bc,I⟩:=hP;rw[qs zo] at i;have J:=hb.len;have av:=t _ _ hi;refine AW.aw 0 Z Z (λF2 al bn=>?_);have hx:=hb.frozen al bn;have c1:=al _ _ av;have a4:∀z∈s.l,z.aB<=g.rules.length:=λz hz=>by{rw[i] at hz;exact(fE z hz).1.1};refine ak ?_;have a5:=nW F2 g P ((hr.mono t).mono al) zo hx zo I a4;unfold ai at a5;refine WT.bE Tryz.func98 Z Z Z Z Z Z a5 (λF3 v c2 hv=>?_);obtain⟨a8,m8,c8,zs,rfl,hz,c6,a6,a7⟩:=hv;refine ak ?_;refine AW.ret ⟨_,[],⟨_,_,rfl,⟨_,_,rfl,rfl,rfl⟩,rfl⟩,bF,rfl,a8,m8,c8,_,zs,rfl,hz,?_⟩;unfold Ir;by_cases e:iM g st ⟨U,yn⟩=[];{rw[n0 e,nw];rw[i,e] at J;have:s.m=0:=J;simp[this]};{rw[nw e,n0];{congr 1;refine(tC (λz hz=>(fE z hz).1) a6 λz=>?_).symm;rw[a7,i]};{have:0<s.m:=by{rw[J,i];exact List.length_pos_iff.2 e};exact decide_eq_true zo}}}
end Go.Proofs.D
set_option linter.unusedVariables false
set_option maxRecDepth 20000
set_option maxHeartbeats 0
open Go Go.Abs Go.Proofs Go.Proofs.D
namespace Go.Abs
section
variable {C:Ctx}{T:RT}{n:Nat}{k:ck}{F:aA}{own:bA}{ops rest:List Oper}{o:Oper}{Q:ck->aA->bA->List Rec->Prop}{α:Type}{R:Ty α}
theorem WT.Q6(hT:aU C T=true)(p:Nat){t:TypeId}{ao:Operand}{a:Option Addr}{m c j b:Nat}{B:List (Nat×aJ)}{xs:List α}{x:α}{r:Row}(hv:mn R F a m c B xs)(ha:a=some ⟨b,0,none⟩)(hj:xs[j]?=some x)(U:o.op=.load t ao)(hw:aL ops k o=some true){dst:Nat}(g:o.dst=some dst)(hn:Nat.blt dst n=true)
  (I:bg C k ao=some (.pointer (some ⟨b,j*R.size,none⟩))) (hp:own[p]?=some B) (hr:rowOf T t=some r) (hd:r.d.agg=false) (hs:R.size=1)
  (h:∀v,R.rel F [v] x->WT C n ops rest ((dst,v)::k) F own (λk2 F2 own2 rs=>Q k2 F2 own2 (⟨F,own,F,own,[b]⟩::rs))):WT C n ops (o::rest) k F own Q:=by
 obtain⟨i,cs,h1,rfl,h3,h4⟩:=hv.at_ hj;rw[ha] at h1;injection h1 with h1;injection h1 with h1;subst h1;obtain⟨l,J,P⟩:=h3.at j x hj;have hl:=R.len _ _ _ P;rw[show R.size=1 from hs] at I J hl;match l,hl,J,P with| [v],_,J,P=>{exact WT.uj p U hw I hp me (AG hT hr hd (BP J rfl)) (by rw[g,aC hn];exact h v P)}
end
end Go.Abs
namespace Go.Proofs.D
theorem wu{α:Type}[DecidableEq α]:∀(os:List (Option α)) (g:List α) (o:Option α),cI g (os++[o])=((dK (cI g os).1 o).1,(cI g os).2++[(dK (cI g os).1 o).2])
 | [],g,o=>rfl
 | x::os,g,o=>by{have i:=wu os (dK g x).1 o;show ((cI (dK g x).1 (os++[o])).1,(dK g x).2::(cI (dK g x).1 (os++[o])).2)=_;rw[i];rfl}
theorem FO{α:Type}[DecidableEq α](g:List α)(a:List (Option α)):∀(b:List (Option α)),(cI g a).1.length<=(cI g (a++b)).1.length:=by
 intro b;induction a generalizing g with| nil=>{obtain⟨⟨ex,h⟩,_⟩:=qq b g;show g.length<=(cI g b).1.length;rw[h,sj];omega}| cons o a i=>{exact i (dK g o).1}
def Be{α:Type}[DecidableEq α](s:α)(S:List α):Nat:=S.idxOf s
theorem Mv{α:Type}[DecidableEq α]{s:α}{S T:List α}(h:s∈S):Be s (S++T)=Be s S:=by
 unfold Be;rw[List.idxOf_append,n0 h]
theorem MA{α:Type}[DecidableEq α]{s:α}{S:List α}(h:s∉S):Be s (S++[s])=S.length:=by
 unfold Be;rw[List.idxOf_append,nw h];simp
def uQ{σ:Type}[DecidableEq σ](key:σ->List UInt8)(P:List σ->Prop)(es:cd (List UInt8))(S:List (List σ)):Prop:=∀s,P s->Abs.look es (dw key s)=if s∈S then some (.int .i64 (Be s S:Nat)) else none
theorem uQ.add{σ:Type}[DecidableEq σ]{key:σ->List UInt8}{P:List σ->Prop}{es:cd (List UInt8)}{S:List (List σ)}(h:uQ key P es S)(g:∀s s',P s->P s'->dw key s=dw key s'->s=s'){s:List σ}(hs:P s)(j:s∉S) :
  uQ key P (cE es (dw key s) (.int .i64 (S.length:Nat))) (S++[s]):=by
 intro s' i;rw[fT];by_cases e:s'=s;{subst e;rw[n0 rfl,n0 (Tf _ (TW _))];rw[MA j]};{rw[nw (λl=>e (g s' s i hs l)),h s' i];by_cases hm:s'∈S;{rw[n0 hm,n0 (Te _ hm)];rw[Mv hm]};{rw[nw hm,nw];intro h2;rcases D1.1 h2 with h2 | h2;{exact hm h2};{exact e (ti.1 h2)}}}
theorem uQ.one{σ:Type}[DecidableEq σ]{key:σ->List UInt8}{P:List σ->Prop}(g:∀s s',P s->P s'->dw key s=dw key s'->s=s'){s:List σ}(hs:P s):uQ key P (cE [] (dw key s) (.int .i64 0)) [s]:=
 uQ.add (S:=[]) (es:=[]) (λs' _=>by simp[Abs.look]) g hs (by simp)
theorem I0{α:Type}[DecidableEq α]{most f i:Nat}{step:α->List (Option α)}{g:List α}(rows:List (List Int))(_:Unit){st:α}(h:g[i]?=some st) :
  o9 most step (f+1) i g rows=if (cI g (step st)).1.length<=most then o9 most step f (i+1) (cI g (step st)).1 (rows++[(cI g (step st)).2]) else none:=by
 (conv=>lhs;unfold o9);rw[h]
theorem Ql{p:Prop} (h:p:=by{subst hv;refine WT.vw Z Z Z Z Z Z (by rw[gF];show _+1<=_;omega) ?_;refine WT.vw Z Z Z Z Z Z (by rw[show (dW (key x)++{ data:=#[59] }:ByteArray)=dW (key x++[59]) from iY _ [59],gF,gF,hP,sj];show _+(_+1)<=_;omega) ?_;refine WT.gn (v':=.string (dW (s++(key x++[59])))) 18 Z (by show Value.string (dW s++(dW (key x)++dW [59]))=_;rw[iY,iY]) ?_;refine aq ?_;refine⟨s++(key x++[59]),sM,cF,?_⟩;show _=dw key (l.take (j+1));rw[yo,hxj,Vr,nG,hP]}):p:=h
theorem Hp(F:aA){b:Option Addr}{n d:Nat}{l:List Lr}(hl:bk oN F b n d l)(hn:n<=1000){i6:Nat}{ro:Bool}{fk:Nat}{i:Func}(J:CC.func fk=some i)(P:i.body.isSome=true)(R:F i6=some (.cells ro [.func (.func fk) ⟨[]⟩ ⟨[]⟩]))
  (key:Lr->List UInt8) (hlen:∀x∈l,(key x).length<=20) (r:∀x∈l,∀G,aA.le F G->Abs.Spec CC fk [.agg ⟨[.int .i64 x.aB,.int .i64 x.dot]⟩] G [] λ_ v o=>o=[]/\v=.string (dW (key x))) :
  Abs.Spec CC 125 [.slice b n d,.pointer (some ⟨i6,0,none⟩)] F [] λ_ v o=>o=[]/\v=.string (dW (dw key l)):=by
 have ac:=hl.len;have t:∀j,(dw key (l.take j)).length<=21*j:=by{intro j;induction j with| zero=>{simp[dw]}| succ j ih=>{rw[yo];cases hx:l[j]? with| none=>{simp;omega}| some x=>{rw[Vr,nG,sj,sj,Tw];have:=hlen x (gM hx);omega}}};refine Abs.Spec.fn (n:=21) Tryz.func125 rfl rfl λown=>?_;refine ak ?_;refine AW.range (S:=List UInt8) (λs=>[(4,.string (dW s))]) (λ_=>own) (λj s G=>s=dw key (l.take j)) n [] Z Z Z Z Z Z Z Z Z zo Z Z (λ_=>rfl) (λ_=>rfl) sM oR Z ?_ ?_;{intro j s F1 g hj hP;have U:=hl.mono g;have ae:=g _ _ R;have ht:=t j;refine aq ?_;refine WT.bh hT U Z Z Z Z Z Z Z Z Z zo (λx hxj b1 off af cs lx al an C=>?_);obtain rfl:lx=_:=C;have I:=gM hxj;have ao:=hlen x I;refine aq ?_;refine WT.az hT Z Z Z Z Z Z (λi9 ar=>?_);refine aq ?_;refine WT.kz (first:=[]) (args:=[.agg ⟨[.int .i64 x.aB,.int .i64 x.dot]⟩]) (capt:=[]) J P Z Z Z Z Z Z Z (r x I F1 g) (λv hv=>?_);exact Ql};{intro s F1 g hP;rw[qs zo] at hP;refine aq ?_;exact AW.ret ⟨_,[],⟨_,_,rfl,rfl,rfl⟩,bF,rfl,by rw[hP];rfl⟩}
structure RU where
 i:Nat
 cw:List (List Lr)
 rows:List (List Int)
 sa:Option Addr
 sn:Nat
 sc:Nat
 SB:List (Nat×aJ)
 ta:Option Addr
 tn:Nat
 tc:Nat
 TB:List (Nat×aJ)
 es:cd (List UInt8)
structure Rv where
 cw:List (List Lr)
 row:List Int
 sa:Option Addr
 sn:Nat
 sc:Nat
 SB:List (Nat×aJ)
 ra:Option Addr
 rn:Nat
 rc:Nat
 RB:List (Nat×aJ)
 es:cd (List UInt8)
theorem oG{p:Prop} (h:p:=by{have hgt:=hg.range.ae;have hgn:=hg.range.ay;have hl0:=h0.len;unfold ai;refine Abs.Spec.fn (n:=93) Oa rfl rfl λown=>?_;refine AW.seq (AW.fp ?_);refine WT.bN Z Z Z Z Z Z (λi4 hi4=>?_);refine WT.bN Z Z Z Z Z Z (λi6 hi6=>?_);refine aq ?_;refine WT.aw 0 Z Z (λF0 hF0 hB0=>?_);have hi6:=hB0 i6 _ me;have h01:=h0.mono hF0;refine WT.aR hT Z Z Z Z Z Z Z Z Z Z Z Z Z Z (λi26 hi26=>?_);refine aq ?_;refine WT.makeMap Z Z Z Z (λim him=>?_);refine aq ?_;refine WT.kz (first:=[]) (args:=[.slice b n d]) (capt:=[.pointer (some ⟨i6,0,none⟩)]) LY Z Z Z Z Z Z Z Z (KW F0 h01 (hl0▸(hPl _ hP0).1) hgk hbk hi6 key (λx hx=>hlen x ((hPl _ hP0).2 x hx)) (λx hx G hG=>hkey x ((hPl _ hP0).2 x hx) G (hF0.trans hG))) (λv hv=>?_);subst hv;refine WT.Lq AL hT 0 0 (m:=[]) (key:=dw key st0) Z Z Z Z Z Z Z Z Z Z Z Z ?_;refine aq ?_;refine AW.block ?_;refine AW.ek (S:=Oh) (λs=>[(15,.int .i64 (s.i:Nat)),(12,.slice s.sa s.sn s.sc),(14,.slice s.ta s.tn s.tc)]) (λs=>s.TB::[(im,.map (aP AL s.es))]::s.SB::[]::[(i4,.cells false [.int .i64 g.ae,.int .i64 g.ay,.int .i64 g.start,.slice ga gm gc])]::own) (λs G=>o9 400 (λs=>(cL g).map (nx s)) 401 0 [st0] []=o9 400 (λs=>(cL g).map (nx s)) (401-s.i) s.i s.cw s.rows/\sJ 400 (λs=>(cL g).map (nx s)) st0 s.i s.cw s.rows/\cb (bz BZ) G s.sa s.sn s.sc s.SB s.cw/\cb (bz dv) G s.ta s.tn s.tc s.TB s.rows/\uQ key P s.es s.cw/\∀x∈s.cw,P x) (λs=>401-s.i) ⟨0,[st0],[],some ⟨i26,0,none⟩,1,1,[(i26,.cells false [.slice b n d])],none,0,0,[],cE [] (dw key st0) (.int .i64 0)⟩ sM (ah.flat (sh _)) ⟨rfl,sJ.begin _ _ (by decide),⟨rfl,.inr ⟨i26,_,rfl,rfl,rfl,aG.single (R:=bz BZ) (x:=st0) ⟨_,_,_,rfl,h01⟩,by decide⟩⟩,cb.cK _ _,uQ.one hinj hP0,λx hx=>by rw[ti.1 hx];exact hP0⟩ ?_;intro s F1 hF1 hI;obtain⟨hnum,hN,hsb,htb,hmp,hall⟩:=hI;have hfew:=hN.Eo;have hle:=hN.le;have hrl:=hN.len;have hsn:=hsb.len;have htn:=htb.len;have hi61:=hF1 _ _ hi6;refine yP ?_;refine AW.cond Z (λh=>?_) (λh=>?_);{have hlt:s.i<s.cw.length:=by{simp at h;omega};obtain⟨st,hst⟩:∃st,s.cw[s.i]?=some st:=⟨_,gE hlt⟩;have hPst:=hall st (gM hst);refine yP ?_;refine AW.block ?_;refine yP ?_;have hsy:=tD F1 g hg (a:=ga) (m:=gm) (c:=gc);unfold ai at hsy;refine WT.bE Tryz.func92 Z Z Z Z Z Z hsy (λF2 v hF2 hv=>?_);obtain⟨ya,yn,yc,rfl,hy⟩:=hv;have hyl:=hy.len;rw[eC] at hyl;refine yP ?_;refine AW.range (S:=Om) (λu=>[(12,.slice u.sa u.sn u.sc),(16,.slice u.ra u.rn u.rc)]) (λu=>u.RB::s.TB::[(im,.map (aP AL u.es))]::u.SB::[]::[(i4,.cells false [.int .i64 g.ae,.int .i64 g.ay,.int .i64 g.start,.slice ga gm gc])]::own) (λk u G=>cI s.cw (((cL g).map (nx st)).take k)=(u.cw,u.row)/\u.cw.length<=400/\cb (bz BZ) G u.sa u.sn u.sc u.SB u.cw/\cb dv G u.ra u.rn u.rc u.RB u.row/\uQ key P u.es u.cw/\∀x∈u.cw,P x) yn ⟨s.cw,[],s.sa,s.sn,s.sc,s.SB,none,0,0,[],s.es⟩ Z Z Z Z Z Z Z Z Z zo rfl rfl (λ_=>rfl) (λ_=>rfl) sM (ah.flat (sh _)) ⟨rfl,hfew,hsb.mono hF2,cb.cK _ _,hmp,hall⟩ ?_ ?_;{intro k u F3 hF3 hk hI;obtain⟨hadd,hu4,hub,hrb,hum,huall⟩:=hI;have hy3:=hy.mono hF3;have hi63:=hF3 _ _ (hF2 _ _ hi61);have hrow:=hrb.len;have hun:=hub.len;obtain⟨⟨ex,hex⟩,hnd,_,hro⟩:=qq (((cL g).map (nx st)).take k) s.cw;rw[hadd] at hex hnd hro;have hex:u.cw=s.cw++ex:=hex;have hrl:=hro.len;rw[Tg,tj,eC] at hrl;have hrl:u.row.length=k:=by{have h9:u.row.length=min k (g.ae+g.ay):=hrl;rw[h9,Ul zo]};have hsti:u.cw[s.i]?=some st:=by{rw[hex,AT hlt];exact hst};refine qo ?_;refine WT.bh hT hy3 Z Z Z Z Z Z Z Z Z (by rw[eC];omega) (λy hyk b1 off1 ro1 cs1 lx1 hb1 hp1 hrel1=>?_);obtain rfl:lx1=_:=hrel1;obtain⟨hyo,hyi⟩:=Gn hyk;have hosk:((cL g).map (nx st))[k]?=some (nx st y):=by{rw[zy,hyk];rfl};have htk:((cL g).map (nx st)).take (k+1)=((cL g).map (nx st)).take k++[nx st y]:=by{rw[yo,hosk];rfl};refine qo ?_;refine WT.az hT Z Z Z Z Z Z (λi18 hi18=>?_);refine qo ?_;refine WT.HS hT hub.vec Z Z Z Z Z Z Z Z Z (by rw[hun,hex,sj];omega) (λb5 hb5=>?_);refine WT.Q6 hT 4 hub.vec hb5 hsti Z Z Z Z Z Z Z Z Z (λv hv=>?_);obtain⟨qa,qn,qc,hv,hq⟩:=hv;obtain rfl:v=.slice qa qn qc:=by{simpa using hv};refine qo ?_;refine WT.Nq (first:=firstx) (args:=[.slice qa qn qc,.agg ⟨[.bool y.term,.int .i64 y.n]⟩]) (capt:=captx) hgx hbx Z Z Z Z Z Z Z (hnext F3 (hF0.trans (hF1.trans (hF2.trans hF3))) _ _ _ st y hPst hq hyo) (λF4 v hF4 hv=>?_);obtain⟨za,zn,zc,zb,s',rfl,hz,hnx⟩:=hv;have hrb4:=hrb.mono hF4;have hub4:=hub.mono hF4;have hsnoc:=wu (((cL g).map (nx st)).take k) s.cw (nx st y);rw[<-htk,hadd] at hsnoc;refine qo ?_;refine AW.cond Z (λhzb=>?_) (λhzb=>?_);{have hzb:zb=false:=by{simpa using hzb};rw[hzb,nw (by simp)] at hnx;rw[hnx] at hsnoc;refine qo ?_;refine WT.aR hT Z Z Z Z Z Z Z Z Z Z Z Z Z Z (λi58 hi58=>?_);refine WT.aZ (R:=dv) (ys:=[-1]) hT 2 hrb4 Z (λ_=>rfl) Z Z Z Z Z Z Z Z Z Z Z (λh0 s0=>aN hT s0 0 Z Z Z Z) (aG.single (R:=dv) (x:=-1) rfl) Z (by decide) fj (λa3 c3 B3 hB3=>?_);refine qo ?_;refine AW.exit ?_;exact⟨⟨u.cw,u.row++[-1],u.sa,u.sn,u.sc,u.SB,a3,u.rn+1,c3,B3,u.es⟩,sM,cF,hsnoc,hu4,hub4,hB3,hum,huall⟩};{have hzb:zb=true:=by{simpa using hzb};rw[hzb,n0 rfl] at hnx;rw[hnx] at hsnoc;have hPs:=hnP st y s' hPst hnx;refine qo ?_;refine WT.kz (first:=[]) (args:=[.slice za zn zc]) (capt:=[.pointer (some ⟨i6,0,none⟩)]) LY Z Z Z Z Z Z Z Z (KW F4 hz (hz.len▸(hPl _ hPs).1) hgk hbk (hF4 _ _ hi63) key (λx hx=>hlen x ((hPl _ hPs).2 x hx)) (λx hx G hG=>hkey x ((hPl _ hPs).2 x hx) G (hF0.trans (hF1.trans (hF2.trans (hF3.trans (hF4.trans hG))))))) (λv hv=>?_);subst hv;refine qo ?_;have hlk:=hum s' hPs;refine WT.N6 AL hT 3 (m:=u.es) (key:=dw key s') Z Z Z Z Z Z Z me Z Z Z (λv hv=>?_) (λhv=>?_);{rw[hv] at hlk;have hmem:s'∈u.cw:=by{by_cases hm:s'∈u.cw;{exact hm};{rw[nw hm] at hlk;cases hlk}};rw[n0 hmem] at hlk;obtain rfl:=aE hlk;have hone:dK u.cw (some s')=(u.cw,((Be s' u.cw:Nat):Int)):=by{unfold dK;simp only[n0 hmem];rfl};rw[hone] at hsnoc;refine qo ?_;refine AW.cond Z (λh=>(by cases h)) (λ_=>?_);refine qo ?_;refine WT.aR hT Z Z Z Z Z Z Z Z Z Z Z Z Z Z (λi58 hi58=>?_);refine WT.aZ (R:=dv) (ys:=[((Be s' u.cw:Nat):Int)]) hT 2 hrb4 Z (λ_=>rfl) Z Z Z Z Z Z Z Z Z Z Z (λh0 s0=>aN hT s0 0 Z Z Z Z) (aG.single (R:=dv) (x:=((Be s' u.cw:Nat):Int)) rfl) Z (by decide) fj (λa3 c3 B3 hB3=>?_);refine qo ?_;exact⟨⟨u.cw,u.row++[((Be s' u.cw:Nat):Int)],u.sa,u.sn,u.sc,u.SB,a3,u.rn+1,c3,B3,u.es⟩,sM,cF,hsnoc,hu4,hub4,hB3,hum,huall⟩};{rw[hv] at hlk;have hmem:s'∉u.cw:=λhm=>by{rw[n0 hm] at hlk;cases hlk};have hone:dK u.cw (some s')=(u.cw++[s'],((u.cw.length:Nat):Int)):=by{unfold dK;simp only[nw hmem]};rw[hone] at hsnoc;refine qo ?_;refine AW.cond Z (λ_=>?_) (λh=>(by cases h));refine qo ?_;refine AW.cond Z (λh4=>?_) (λh4=>?_);{have h4:u.cw.length=400:=by{simp at h4;omega};refine qo ?_;refine AW.ret ⟨_,[],⟨_,_,rfl,⟨_,_,rfl,⟨_,_,rfl,rfl,rfl⟩,rfl⟩,rfl⟩,bF,rfl,.inl ⟨?_,rfl⟩⟩;rw[hnum,show 401-s.i=(400-s.i)+1 by omega,I0 _ () hst,nw];have h5:=FO s.cw (((cL g).map (nx st)).take (k+1)) (((cL g).map (nx st)).drop (k+1));rw[Ut,hsnoc] at h5;simp only[sj,Tw] at h5;omega};{have h4:u.cw.length≠400:=by{simp at h4;omega};refine qo ?_;refine WT.Am AL hT 3 0 (m:=u.es) (key:=dw key s') Z Z Z Z Z Z Z Z Z Z Z Z ?_;refine qo ?_;refine WT.aR hT Z Z Z Z Z Z Z Z Z Z Z Z Z Z (λi80 hi80=>?_);refine WT.aZ (R:=bz BZ) (ys:=[s']) hT 5 hub4 Z (λ_=>rfl) Z Z Z Z Z Z Z Z Z Z Z (λh0 s0=>aN hT s0 0 Z Z Z Z) (aG.single (R:=bz BZ) (x:=s') ⟨_,_,_,rfl,hz⟩) Z (by decide) fj (λa4 c4 B4 hB4=>?_);refine qo ?_;refine WT.aR hT Z Z Z Z Z Z Z Z Z Z Z Z Z Z (λi58 hi58=>?_);refine WT.aZ (R:=dv) (ys:=[((u.sn:Nat):Int)]) hT 3 hrb4 Z (λ_=>rfl) Z Z Z Z Z Z Z Z Z Z Z (λh0 s0=>aN hT s0 0 Z Z Z Z) (aG.single (R:=dv) (x:=((u.sn:Nat):Int)) rfl) Z (by decide) fj (λa3 c3 B3 hB3=>?_);refine qo ?_;have hum2:=hum.add hinj hPs hmem;rw[<-hun] at hum2 hsnoc;refine⟨⟨u.cw++[s'],u.row++[((u.sn:Nat):Int)],a4,u.sn+1,c4,B4,a3,u.rn+1,c3,B3,cE u.es (dw key s') (.int .i64 (u.sn:Nat))⟩,sM,cF,hsnoc,?_,hB4,hB3,hum2,λx hx=>?_⟩;{show (u.cw++[s']).length<=400;rw[sj,Tw];omega};{rcases D1.1 hx with hx | hx;{exact huall x hx};{rw[ti.1 hx];exact hPs}}}}}};{intro u F3 hF3 hI;obtain⟨hadd,hu4,hub,hrb,hum,huall⟩:=hI;rw[qs (by rw[tj,eC];omega)] at hadd;refine AW.aw 0 Z Z (λF4 hF4 hB4=>?_);have hrow:=hrb.frozen hF4 hB4;have hF14:=(hF2.trans hF3).trans hF4;have htb4:=htb.mono hF14;refine qo ?_;refine WT.aR hT Z Z Z Z Z Z Z Z Z Z Z Z Z Z (λi89 hi89=>?_);refine WT.aZ (R:=bz dv) (ys:=[u.row]) hT 2 htb4 Z (λ_=>rfl) Z Z Z Z Z Z Z Z Z Z Z (λh0 s0=>aN hT s0 0 Z Z Z Z) (aG.single (R:=bz dv) (x:=u.row) ⟨_,_,_,rfl,hrow⟩) Z (by decide) fj (λa3 c3 B3 hB3=>?_);refine qo ?_;have hstep:(cI s.cw ((cL g).map (nx st))).1=u.cw/\(cI s.cw ((cL g).map (nx st))).2=u.row:=by{rw[hadd];exact⟨rfl,rfl⟩};have hN2:=hN.next hst (by rw[hstep.1];exact hu4);have hun:=hub.len;refine⟨⟨s.i+1,u.cw,s.rows++[u.row],u.sa,u.sn,u.sc,u.SB,a3,s.tn+1,c3,B3,u.es⟩,by dsimp only;omega,sM,cF,?_,?_,hub.mono hF4,hB3,hum,huall⟩;{rw[hnum,show 401-s.i=(400-s.i)+1 by omega,I0 _ () hst,n0 (by rw[hstep.1];exact hu4),hstep.1,hstep.2];show o9 400 _ (400-s.i) (s.i+1) _ _=o9 400 _ (401-(s.i+1)) (s.i+1) _ _;rw[show 401-(s.i+1)=400-s.i by omega]};{rw[hstep.1,hstep.2] at hN2;exact hN2}}};{have hge:s.cw.length<=s.i:=by{simp at h;omega};refine AW.exit ?_;refine AW.aw 0 Z Z (λF2 hF2 hB2=>?_);refine AW.aw 2 Z Z (λF3 hF3 hB3=>?_);have ht:=htb.frozen hF2 hB2;have hs3:=(hsb.mono hF2).frozen hF3 hB3;refine yP ?_;refine AW.ret ⟨_,[],⟨_,_,rfl,⟨_,_,rfl,⟨_,_,rfl,rfl,rfl⟩,rfl⟩,rfl⟩,bF,rfl,.inr ⟨s.cw,s.rows,_,_,_,_,_,_,?_,rfl,hs3,ht.mono hF3⟩⟩;rw[hnum,show 401-s.i=(400-s.i)+1 by omega];unfold o9;rw[zE hge]}}):p:=h
namespace NI
abbrev Oh:=RU
abbrev Om:=Rv
abbrev LY:=Tryz.func125
abbrev Oa:=Tryz.func97
abbrev KW:=@Hp
abbrev BZ:=oN
end NI
open NI in
theorem Dn(F:aA)(g:aj)(hg:Valid g){ga:Option Addr}{gm gc:Nat}{b:Option Addr}{n d:Nat}{st0:List Lr}(h0:bk oN F b n d st0)
  {fk fx:Nat} {j l:Func} {firstx captx:List Value} (hgk:CC.func fk=some j) (hbk:j.body.isSome=true) (hgx:CC.func fx=some l) (hbx:l.body.isSome=true)
  (key:Lr->List UInt8) (nx:List Lr->Sym->Option (List Lr)) (P:List Lr->Prop) (i:Lr->Prop)
  (hP0:P st0) (hPl:∀s,P s->s.length<=1000/\∀x∈s,i x) (hinj:∀s s',P s->P s'->dw key s=dw key s'->s=s') (hnP:∀s y s',P s->nx s y=some s'->P s')
  (hlen:∀x,i x->(key x).length<=20) (hkey:∀x,i x->∀G,aA.le F G->Abs.Spec CC fk [.agg ⟨[.int .i64 x.aB,.int .i64 x.dot]⟩] G [] λ_ v o=>o=[]/\v=.string (dW (key x)))
  (hnext:∀G,aA.le F G->∀(a:Option Addr) (m c:Nat) (s:List Lr) (y:Sym),P s->bk oN G a m c s->cP g.ae g.ay y->
   Abs.Spec CC fx (firstx++[.slice a m c,.agg ⟨[.bool y.term,.int .i64 y.n]⟩]++captx) G [] λG' v o=>o=[]/\∃r t C z s',v=.tuple ⟨[.slice r t C,.bool z]⟩/\bk oN G' r t C s'/\nx s y=if z=true then some s' else none) :
  Abs.Spec CC 97 [.agg ⟨ai g ga gm gc⟩,.slice b n d,.func (.func fk) ⟨[]⟩ ⟨[]⟩,.func (.func fx) ⟨firstx⟩ ⟨captx⟩] F [] λI v o=>o=[]/\
   ((o9 400 (λs=>(cL g).map (nx s)) 401 0 [st0] []=none/\v=.tuple ⟨[.slice none 0 0,.slice none 0 0,.bool false]⟩)\/
    ∃S rows J U c1 a2 n2 c2,o9 400 (λs=>(cL g).map (nx s)) 401 0 [st0] []=some (S,rows)/\v=.tuple ⟨[.slice J U c1,.slice a2 n2 c2,.bool true]⟩/\bk (bz oN) I J U c1 S/\bk (bz dv) I a2 n2 c2 rows):=oG
def PI(g:aj)(s:List Lr):Prop:=s.length<=1000/\∀x∈s,gj g x
theorem PL{g:aj}(i:Valid g){x:Lr}(h:gj g x):x.aB<100/\x.dot<100:=by
 have l:=i.range.rules;obtain⟨h1,o⟩:=h;refine⟨by omega,?_⟩;have:(bL g x.aB).length<=4:=by{unfold bL;split;{simp};{cases j:g.rules[x.aB]? with| none=>{simp}| some r=>{exact(i.right r (gM j)).2.1}}};omega
theorem Kz{g:aj}(i:Valid g):(wU g).length<=1000:=by
 have o:=i.range.rules;unfold wU;rw[List.length_flatten,Us];have:∀n≤g.rules.length+1,((List.range n).map (List.length ∘ λk=>(List.range ((bL g k).length+1)).map λd=>(⟨k,d⟩:Lr))).sum<=n*5:=by{intro n t;induction n with| zero=>{simp}| succ n j=>{rw[Uk,Th,Uw];have j:=j zo;simp only[y2,Wf,TL,List.sum_nil,Function.comp,tj,T3];have C:(bL g n).length<=4:=by{unfold bL;split;{simp};{cases l:g.rules[n]? with| none=>{simp}| some r=>{exact(i.right r (gM l)).2.1}}};omega}};have h:=this _ (mc _);omega
theorem k9{g:aj}(i:Valid g)(l:List Lr):PI g (fv g l):=by
 refine⟨?_,k8⟩;have h1:=Kz i;have j:=V7 (λz=>@decide (iJ g l z) (Classical.propDecidable _)) (wU g);unfold fv;omega
theorem rF(F:aA)(g:aj)(i:Valid g){a:Option Addr}{m c:Nat}(J:bk cD F a m c g.rules) :
  Abs.Spec CC 54 [.agg ⟨ai g a m c⟩] F [] λF' v o=>o=[]/\((iT g=none/\v=.tuple ⟨[.agg ⟨[.slice none 0 0,.slice none 0 0]⟩,.int .i64 2]⟩)\/
   ∃I rows a1 n1 c1 a2 n2 c2,iT g=some (I,rows)/\v=.tuple ⟨[.agg ⟨[.slice a1 n1 c1,.slice a2 n2 c2]⟩,.int .i64 0]⟩/\bk (bz oN) F' a1 n1 c1 I/\bk (bz dv) F' a2 n2 c2 rows):=by
 have av:=J.len;have bo:=i.range.rules;have ax:∀r∈g.rules,r.right.length<=100:=λr h=>by{have:=(i.right r h).2.1;omega};refine Abs.Spec.fn (n:=34) Tryz.func54 rfl rfl λown=>?_;refine AW.seq (AW.fp ?_);refine WT.bN Z Z Z Z Z Z (λi1 j=>?_);refine WT.aw 0 Z Z (λF0 ay a0=>?_);have j:=a0 i1 _ me;have J:=J.mono ay;unfold ai at j ⊢;refine WT.az hT Z Z Z Z Z Z (λi2 br=>?_);refine aq ?_;have P:=jx F0 g i.range J;unfold ai at P;refine WT.bj Tryz.func48 Z Z Z Z Z Z P (λv C=>?_);rw[i.vi] at C;subst C;refine aq ?_;refine AW.cond Z (λh=>(by cases h)) (λ_=>?_);refine aq ?_;refine AW.draw (ps:=[(0,6),(0,7),(1,6)]) Z Z (aq ?_);refine WT.aR hT Z Z Z Z Z Z Z Z Z Z Z Z Z Z (λi21 bd=>?_);refine WT.aw 0 Z Z (λF1 l a3=>?_);have a4:bk oN F1 (some ⟨i21,0,none⟩) 1 2 [⟨g.rules.length,0⟩]:=by{have hb:cb oN F0 (some ⟨i21,0,none⟩) 1 2 [(i21,.cells false [.int .i64 m,.int .i64 0])] [⟨g.rules.length,0⟩]:=⟨rfl,.inr ⟨i21,_,rfl,rfl,rfl,aG.single (R:=oN) (x:=⟨g.rules.length,0⟩) (by rw[<-av];rfl),by decide⟩⟩;exact hb.frozen l a3};have U:=J.mono l;have aa:=l _ _ j;have ab:=nW F1 g ax U zo a4 zo (λe=>(by cases e)) (λz hz=>(iZ z hz).1);unfold ai at ab;refine WT.bE Tryz.func98 Z Z Z Z Z Z ab (λF2 v ac C=>?_);obtain⟨a8,m8,c8,zs,rfl,hz,bv,ad,ae⟩:=C;obtain rfl:zs=C4 g:=tC iZ ad ae;have a6:=U.mono ac;have af:=ac _ _ aa;refine aq ?_;have ag:=Dn F2 g i (ga:=a) (gm:=m) (gc:=c) hz (fk:=94) (fx:=99) (firstx:=[]) (captx:=[.pointer (some ⟨i1,0,none⟩)]) Tryz.func94 rfl Tryz.func99 rfl lC (Ir g) (PI g) (λx=>x.aB<100/\x.dot<100) (k9 i _) (λs hs=>⟨hs.1,λx t=>PL i (hs.2 x t)⟩) (λs s' hs a7 e=>J2 (λx t=>PL i (hs.2 x t)) (λx t=>PL i (a7.2 x t)) e) (λs y s' _ e=>by{unfold Ir at e;split at e;{cases e};{obtain rfl:=aE e;exact k9 i _}}) (λx _=>by have:=u9 x;omega) (λx t G _=>yr G x t) (λG hG a' m' c' s y hs hA hy=>HX G g i (hG _ _ af) (a6.mono hG) hA (hA.len▸hs.1) hs.2 y hy);(unfold ai at ag;refine WT.bE Tryz.func97 Z Z Z Z Z Z ag (λF3 v b0 C=>?_);rcases C with ⟨a9,rfl⟩ | ⟨S,rows,a1,n1,c1,a2,n2,c2,al,rfl,hS,hR⟩);{refine aq ?_;refine⟨lU,?_⟩;refine aq ?_;refine AW.cond Z (λ_=>?_) (λh=>(by cases h));refine aq ?_;exact AW.ret ⟨_,[],⟨_,_,⟨_,rfl,λG h0 s0=>aD (s0.has (p:=1) rfl me) (aM hT rfl)⟩,⟨_,_,rfl,rfl,rfl⟩,rfl⟩,bF,rfl,.inl ⟨a9,rfl⟩⟩};{refine aq ?_;refine⟨lU,?_⟩;refine aq ?_;refine AW.cond Z (λh=>(by cases h)) (λ_=>?_);refine aq ?_;exact AW.ret ⟨_,[],⟨_,_,⟨_,rfl,λG h0 s0=>aD (s0.has (p:=1) rfl me) (aM hT rfl)⟩,⟨_,_,rfl,rfl,rfl⟩,rfl⟩,bF,rfl,.inr ⟨S,rows,_,_,_,_,_,_,al,rfl,hS,hR⟩⟩}
def Qs(x:aS):List Value:=[.int .i64 x.item.aB,.int .i64 x.item.dot,.int .u32 x.set]
def cX:Ty aS where
 size:=3
 rel:=λ_ l x=>l=Qs x
 len:=λ_ _ _ h=>by rw[h];rfl
 one:=λ_ _ _ h=>by rw[h];rfl
 mono:=λ_ _ _ _ _ h=>h
theorem GD(F:aA)(x:aS)(i:x.item.aB<100/\x.item.dot<100)(hs:x.set<100):Abs.Spec CC 52 [.agg ⟨[.int .i64 x.item.aB,.int .i64 x.item.dot,.int .u32 x.set]⟩] F [] λ_ v o=>o=[]/\v=.string (dW (yU x)):=by
 have h1:=u9 x.item;have l:=kR x.set;refine Abs.Spec.fn (n:=12) Tryz.func52 rfl rfl λown=>?_;refine AW.seq (AW.fp ?_);refine WT.bN Z Z Z Z Z Z (λi1 j=>?_);refine ak ?_;refine AW.draw (ps:=[(3,7),(5,2)]) Z Z (ak ?_);refine WT.bj Tryz.func94 Z Z Z Z Z Z (yr F x.item i) (λv g=>?_);subst g;refine WT.vw Z Z Z Z Z Z (by rw[gF];show _+1<=_;omega) (ak ?_);refine WT.conv hT (x:=(x.set:Int)) Z Z Z Z Z Z Z Z (wrap64 ⟨by omega,by omega⟩) (WT.bj Tryz.func95 Z Z Z Z Z Z (vz _ x.set hs) (λv g=>?_));subst g;refine WT.vw Z Z Z Z Z Z (by rw[show (dW (lC x.item)++{ data:=#[32] }:ByteArray)=dW (lC x.item)++dW [32] from rfl,iY,gF,gF,sj];show _+1+_<=_;omega) (ak ?_);refine⟨lU,?_⟩;refine AW.ret ⟨_,[],⟨_,_,rfl,rfl,rfl⟩,bF,rfl,?_⟩;show Value.string (dW (lC x.item)++dW [32]++dW (fh x.set))=_;rw[iY,iY,By];rfl
theorem JB(x:aS):(yU x).length<=8:=by
 have h1:=u9 x.item;have g:=kR x.set;unfold yU;simp only[sj,IT];omega
end Go.Proofs.D