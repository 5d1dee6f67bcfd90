/-
  Calls that panic; functions whose contract the library has; calls apart.
-/
import Derived.Test.YtcldmcmclejlhaaGreatDoorAbs7
import Derived.Shelf.GgSortFunc.RowK
import Derived.Shelf.Abstract
import Derived.Deep.Draws
import Derived.Shelf.SlSortCmp.KitK
import Derived.Sort.WalkA14
import Derived.Sort.AssemblyPlain
/-
 The logic of calls that panic,and of functions that defer a closure.
-/
set_option linter.unusedVariables false
namespace Go.Abs
open Go
section
variable {C:Ctx}{n:Nat}{k:ck}{F:aA}{own:bA}{A:Ex->ck->aA->bA->Prop}
def Rp(C:Ctx)(f:FuncId)(args:List Value)(h g:au):Prop:=∃m,∀n,m<=n->xA C n f args h=some g/\call C n f args h=none
def ov(C:Ctx)(f:FuncId)(args:List Value)(F:aA)(oin:bA)(de:aA->bA->Prop):Prop:=
 ∀own h,St F (oin++own) h->∃j i g,Rp C f args h j/\aA.le F i/\St i (g++own) j/\de i g
def Q7(own:bA)(de:aA->bA->Prop):Ex->ck->aA->bA->Prop
 | .jN,_,F,aY=>∃g,(g++own).Sublist aY/\de F g
 | _,_,_,_=>False
theorem ov.fn{f:FuncId}{fn:Func}{c:Code}{args:List Value}{oin:bA}{de:aA->bA->Prop}(r:C.func f=some fn)(t:fn.body=some c)(P:max fn.ntmps args.length=n)
  (h:∀own,AW C n c (uh args 0) F (oin++own) (Q7 own de)) (g:C.fact f=none:=by rfl) (i:C.DE f=false:=by rfl):ov C f args F oin de:=by
 subst P;intro own R hs;obtain⟨x,e1,h1,k1,U,I,⟨m,hm⟩,aa,o,p,l⟩:=h own (iO fn.ntmps args) R (eI.args _ _) hs;cases x with| jN=>{obtain⟨j,q1,q2⟩:=l;refine⟨h1,U,j,⟨m,λN J=>⟨?_,?_⟩⟩,o,p.sub q1,q2⟩;{unfold xA gH;simp only[g,r,t,i,zm,hm N J]};{unfold call cC;simp only[g,r,t,i,zm,hm N J]}}| normal=>{exact l.elim}| exit id=>{exact l.elim}| ret=>{exact l.elim}
theorem Ge{cal:oM}{cp:Ba}{ops:List Oper}:∀(pre rest:List Oper) (e g:Env) (h h1:au) (tr:List su),cG C cal ops pre e h=some (g,h1,tr)->lD C cal cp ops (pre++rest) e h=lD C cal cp ops rest g h1
 | [],_,_,_,_,_,_,q=>by cases q;rfl
 | o::pre,rest,e,g,h,h1,tr,q=>by{unfold cG at q;rw[TI,lD];split at q;{cases q};{rename_i l p i;split at q;{cases q};{rename_i j;cases q;rw[i];exact Ge pre rest _ _ _ _ _ j}}}
theorem wL{cal:oM}{ops:List Oper}{o:Oper}{post:List Oper}:∀(pre:List Oper) (e g:Env) (h h1:au) (tr:List su),cG C cal ops pre e h=some (g,h1,tr)->cq C cal ops o g h1=none->cG C cal ops (pre++o::post) e h=none
 | [],e,g,h,h1,tr,q,i=>by{cases q;rw[Vb,cG,i]}
 | p::pre,e,g,h,h1,tr,q,i=>by{unfold cG at q;rw[TI,cG];split at q;{cases q};{rename_i r t j;split at q;{cases q};{rename_i l;cases q;simp only[wL pre _ _ _ _ _ l i]}}}
theorem zN{cal:oM}{cp:Ba}{ops:List Oper}{o:Oper}{post:List Oper}{J:Env}{hp I:au}{l:List su}:∀(pre:List Oper) (e g:Env) (h h1:au) (tr:List su),cG C cal ops pre e h=some (g,h1,tr)->cq C cal ops o g h1=none->
  vS C cp ops o g h1=some hp->cG C cal ops post (g.put o.dst C.Ej) hp=some (J,I,l)->
  nO C cal cp ops (pre++o::post) e h=some (hp,I,tr++(h1,hp,bJ (g.eval C) o.op,jt C (g.eval C) h1 o.op)::l)
 | [],e,g,h,h1,tr,q,r,i,j=>by{cases q;rw[Vb,nO,r];simp only[i,j,Vb]}
 | p::pre,e,g,h,h1,tr,q,r,i,j=>by{unfold cG at q;rw[TI,nO];split at q;{cases q};{rename_i R U t;split at q;{cases q};{rename_i P;cases q;rw[t];simp only[zN pre _ _ _ _ _ P r i j,TI]}}}
theorem Told.app{pre post:List Oper}{tr g:List su}{rs i:List Rec}(h:Told pre tr rs)(j:Told post g i):Told (pre++post) (tr++g) (rs++i):=by
 induction h with| nil=>{exact j}| cons a b c d e _ l=>{exact .cons a b c d e l}
theorem AW.Pk{id:Nat}{ops:Array Oper}(pre:List Oper){o:Oper}{post:List Oper}{x:Operand}(I:ops.toList=pre++o::post)(j:o.op=.panic x)
  (h:WT C n ops.toList pre k F own λl J aY _=>aL ops.toList l o=some true/\bg C l x=some (xE C)/\A .jN l J aY):AW C n (.region id ops false) k F own A:=by
 intro e t hk hs;obtain⟨p,i,tr,l,J,aY,rs,⟨m,hm⟩,g,hF,P,ht,hw,hv,hq⟩:=h e t hk hs;refine⟨.jN,p,i,l,J,aY,⟨m+1,λN hN=>?_⟩,g,hF,P,hq⟩;obtain⟨N,rfl⟩:∃N',N=N'+1:=⟨N-1,by omega⟩;have hm:cG C (cC C (exec C N)) ops.toList pre e t=some (p,i,tr):=hm N (by omega);show bq C (exec C N) _ e t=_;have r:=dS g hw;have R:cq C (cC C (exec C N)) ops.toList o p i=none:=by{unfold cq;rw[r];simp only[j,aW]};have U:vS C (gH C (exec C N)) ops.toList o p i=some i:=by{unfold vS;rw[r];simp only[j,ux,g.eval _ _ hv,xE,UX,xf]};have:lD C (cC C (exec C N)) (gH C (exec C N)) ops.toList ops.toList e t=some (true,p,i):=by{have:=Ge (cp:=gH C (exec C N)) pre (o::post) _ _ _ _ _ hm;rw[<-I] at this;rw[this,lD,R];simp only[U]};simp only[bq,zm,this,xf]
def uO(ops:List Oper)(k:ck):ck:=k.filter λp=>!(ops.any λo=>o.dst==some p.1)
theorem pL{ops:List Oper}:∀{k:ck} {i:Nat} {v:Value},lk (uO ops k) i=some v->lk k i=some v/\∀o∈ops,o.dst≠some i
 | [],i,v,h=>by cases h
 | (j,u)::k,i,v,h=>by{unfold uO at h;rw[List.filter_cons] at h;split at h;{rename_i g;simp only[lk] at h ⊢;cases l:Nat.beq j i with| true=>{rw[l] at h;have:=Mr l;subst this;refine⟨h,λo p e=>?_⟩;simp only[TZ,VU,T5] at g;exact g o p e}| false=>{rw[l] at h;exact pL (k:=k) h}};{rename_i g;have h1:=pL (k:=k) h;refine⟨?_,h1.2⟩;simp only[lk];cases l:Nat.beq j i with| true=>{exfalso;have:=Mr l;subst this;simp only[TZ,Bool.not_eq_false,VA,T5] at g;obtain⟨o,p,e⟩:=g;exact h1.2 o p e}| false=>{exact h1.1}}}
theorem xx{t:Nat}:∀(ops:List Oper) (g:T Value),(∀o∈ops,o.dst≠some t)->(ops.foldl (λt o=>match o.dst with | some d=>t.set d none | none=>t) g).get t=g.get t
 | [],_,_=>rfl
 | o::ops,g,h=>by{rw[V9,xx ops _ λx i=>h x (mb _ i)];cases j:o.dst with| none=>{rfl}| some d=>{simp only;rw[T.je,nw (λe=>h o (D2 ..) (by rw[j,e]))]}}
theorem eI.forget{e:Env}(hk:eI n e k)(ops:List Oper):eI n (e.forget ops) (uO ops k):=
 ⟨hk.n,λi v h=>by{obtain⟨h1,g⟩:=pL h;show T.get _ i=_;exact(xx ops e.t g).trans (hk.get i v h1)}⟩
theorem St.next{h:au}(s:St F own h){m:Nat}(hm:h.next<=m):St F own ⟨m,h.t⟩:=
 ⟨λi b q=>s.Bl i b q,λp q=>kM.has s p q,λp q=>kM.apart s p q,kM.nodup s,λi b q=>Ti (s.wf i b q) hm⟩
theorem AW.PY{id:Nat}{ops:Array Oper}{ps:List (Nat×Nat)}(pre:List Oper){o:Oper}{post:List Oper}(I:ops.toList=pre++o::post)(hd:oW ops.toList=true)(hn:IX ops.toList=ps)(ax:Ii ops.toList=false)
  (h:WT C n ops.toList pre k F own λk1 F1 i ab=>∃f args oin fr j l,aL ops.toList k1 o=some true/\bl (bg C k1) o.op=some l/\(∀h,aW C (bg C k1) h o.op=some (.call f args))/\ov C f args F1 oin j/\i.Perm (oin++fr)/\
   ∀p g,aA.le F1 p->j p g->WT C n ops.toList post (ew n k1 o.dst C.Ej) p (g++fr) λk3 F3 a0 J=>mq ps (ab++(⟨F1,i,p,g++fr,l⟩:Rec)::J)/\A .jN (uO ops.toList k) p (g++fr)) :
  AW C n (.region id ops true) k F own A:=by
 intro e h0 hk hs;obtain⟨P,h1,a1,k1,F1,i,ab,⟨m1,R⟩,U,a8,a2,a9,f,args,oin,fr,j,l,hw,hl,ba,spec,ac,ad⟩:=h e h0 hk hs;obtain⟨hp,p,g,⟨m2,bb⟩,ae,af,hP⟩:=spec fr h1 (a2.perm ac);obtain⟨e3,h3,ag,k3,F3,a0,J,⟨m3,al⟩,b3,b4,b5,bd,a3,hq⟩:=ad p g ae hP (P.put o.dst C.Ej) hp (U.put o.dst _) af;refine⟨.jN,e.forget ops.toList,⟨max hp.next h3.next,hp.t⟩,uO ops.toList k,p,g++fr,⟨max (max m1 m2) m3+1,λN hN=>?_⟩,hk.forget _,a8.trans ae,af.next (Nat.le_max_left _ _),hq⟩;obtain⟨N,rfl⟩:∃N',N=N'+1:=⟨N-1,by omega⟩;have R:cG C (cC C (exec C N)) ops.toList pre e h0=some (P,h1,a1):=R N (by omega);have al:cG C (cC C (exec C N)) ops.toList post (P.put o.dst C.Ej) hp=some (e3,h3,ag):=al N (by omega);obtain⟨an,ao⟩:=bb N (by omega);have an:gH C (exec C N) f args h1=some hp:=an;have ao:cC C (exec C N) f args h1=none:=ao;have a4:=dS U hw;have a5:=dP U.eval (ba h1);have a6:cq C (cC C (exec C N)) ops.toList o P h1=none:=by{unfold cq;rw[a4];simp only[a5,ao]};have bf:ux o.op=none:=by{have:=VU.1 ax o (by rw[I];simp);simpa using this};have bi:vS C (gH C (exec C N)) ops.toList o P h1=some hp:=by{unfold vS;rw[a4];simp only[bf,a5,an]};have bn:cG C (cC C (exec C N)) ops.toList ops.toList e h0=none:=by{have:=wL (post:=post) pre _ _ _ _ _ R a6;rwa [<-I] at this};have a7:=zN pre _ _ _ _ _ R a6 bi al;rw[<-I] at a7;have ar:Told ops.toList (a1++(h1,hp,bJ (P.eval C) o.op,jt C (P.eval C) h1 o.op)::ag) (ab++(⟨F1,i,p,g++fr,l⟩:Rec)::J):=by{have h4:Told (o::post) ((h1,hp,bJ (P.eval C) o.op,jt C (P.eval C) h1 o.op)::ag) ((⟨F1,i,p,g++fr,l⟩:Rec)::J):=by{rw[vP U.eval hl];exact .cons (r:=⟨F1,i,p,g++fr,l⟩) (λbo=>pM bo hl) (λ_ hb=>hb.elim) a2 af ae bd};have:=a9.app h4;rwa [<-I] at this};show bq C (exec C N) _ e h0=_;have hr:kN C (cC C (exec C N)) ops.toList true e h0=none:=by{unfold kN;simp only[xf,bn]};have br:oC C (cC C (exec C N)) (gH C (exec C N)) ops.toList e h0=some (e.forget ops.toList,⟨max hp.next h3.next,hp.t⟩):=by{unfold oC;simp only[a7,hd,ax,EM ar (by rw[hn];exact a3),Uh,UK,xf]};simp only[bq,xf,hr,br]
def xR:Op->Bool
 | .move _ | .assign _ | .typeAssert .. | .extract .. | .alloc _ | .store .. | .makeFunc ..=>true
 | _=>false
theorem Kh{ρ:Operand->Option Value}{h:au}{op:Op}{r:Af}(hp:xR op=true)(q:aW C ρ h op=some r):∃v j,r=.val v j:=by
 cases r with| val v j=>{exact⟨v,j,rfl⟩}| call f args=>{exfalso;have i:∀{x:Option Value},(x.map λv=>Af.val v h)=some (.call f args)->False:=by{intro x l;cases x<;>cases l};have g:∀{x:Option au},(x.map λh=>Af.val bX h)=some (.call f args)->False:=by{intro x l;cases x<;>cases l};(cases op<;>first | (cases hp;done) | skip);(all_goals simp only[aW] at q);all_goals first | exact i q | exact g q | (split at q<;>first | exact i q | exact g q | cases q)}
theorem ss{cal cal2:oM}{cp:Ba}{ops:List Oper}:∀(rest:List Oper) (e i:Env) (h h1:au) (tr:List su),(∀o∈rest,xR o.op=true)->cG C cal ops rest e h=some (i,h1,tr)->lD C cal2 cp ops rest e h=some (false,i,h1)
 | [],_,_,_,_,_,_,q=>by cases q;rfl
 | o::rest,e,i,h,h1,tr,hp,q=>by{unfold cG at q;unfold lD;split at q;{cases q};{rename_i j l g;split at q;{cases q};{rename_i p;cases q;have:cq C cal2 ops o e h=some (j,l):=by{unfold cq at g ⊢;split at g;{cases g};{exact g};{split at g;{cases g};{exact g};{rename_i r;obtain⟨v,J,t⟩:=Kh (hp o (D2 ..)) r;cases t}}};rw[this];exact ss rest _ _ _ _ _ (λx I=>hp x (mb _ I)) p}}}
def jD(C:Ctx)(l:Value)(f:FuncId)(args:List Value)(F:aA)(oin:bA)(de:aA->bA->Prop):Prop:=
 ∀own h,St F (oin++own) h->∃j i g,(∃m,∀n,m<=n->lN C (exec C n) l f args h=some j)/\aA.le F i/\St i (g++own) j/\de i g
theorem jD.fn{l:Value}{f:FuncId}{fn:Func}{id:Nat}{o:Oper}{os:List Oper}{rest:Code}{args:List Value}{oin:bA}{de:aA->bA->Prop}(hf:C.func f=some fn)(hb:fn.body=some (.seq (.region id ⟨o::os⟩ false) rest))
  (p:vQ o=true) (j:fn.results.toList=[]) (r:os.all (λo=>xR o.op)=true) (hn:max fn.ntmps args.length=n)
  (h:∀own,WT C n (o::os) os (ew n (uh args 0) o.dst l) F (oin++own) λk1 F1 i _=>AW C n rest k1 F1 i λx _ t aY=>(x=.normal\/x=.ret)/\∃g,(g++own).Sublist aY/\de t g):jD C l f args F oin de:=by
 subst hn;intro own h0 hs;obtain⟨e1,h1,tr,k1,F1,i,rs,⟨m1,I⟩,J,P,R,_,U⟩:=h own ((iO fn.ntmps args).put o.dst l) h0 ((eI.args _ _).put _ _) hs;obtain⟨x,e2,h2,k2,t,own2,⟨m2,aa⟩,av,ab,ac,hx,g,q1,q2⟩:=U e1 h1 J R;refine⟨h2,t,g,⟨max m1 m2,λN hN=>?_⟩,P.trans ab,ac.sub q1,q2⟩;unfold lN;have hs:=ss (cal2:=λ_ _ _=>none) (cp:=λ_ _ _=>none) _ _ _ _ _ _ (λo ho=>TM.1 r o ho) (I N (by omega));simp only[hf,hb,p,j,List.isEmpty_nil,Uh,xf,hs,aa N (by omega)];rcases hx with rfl | rfl<;>rfl
structure DW(C:Ctx)(n:Nat)(c:Code)(k:ck)(F:aA)(own:bA)(fn:Func)(own0:bA)(de:aA->Value->bA->Prop):Prop where
 out:∀e h,eI n e k->St F own h->∃e' h' vs F' oout,(∃m,∀N,m<=N->ix C (exec C N) c e h=some (e',h'))/\aA.le F F'/\gW C e' h' fn.results.toList=some vs/\St F' (oout++own0) h'/\de F' (ff vs) oout
variable {fn:Func}{own0:bA}{de:aA->Value->bA->Prop}
def dQ(D:ck->aA->bA->Prop)(E:ck->aA->bA->Prop):Ex->ck->aA->bA->Prop
 | .normal,k,F,own=>D k F own
 | .ret,k,F,own=>E k F own
 | _,_,_,_=>False
theorem DW.seq{a rest:Code}(I:pt a=none)(h:AW C n a k F own (dQ (λR U aY=>DW C n rest R U aY fn own0 de) (NC C fn own0 de .ret))):DW C n (.seq a rest) k F own fn own0 de:=by
 refine⟨λe h0 hk hs=>?_⟩;obtain⟨x,J,h1,k1,F1,P,⟨m,hm⟩,j,l,i,o⟩:=h e h0 hk hs;cases x with| normal=>{obtain⟨e2,h2,vs,F2,g,⟨m2,p⟩,r,hr,t,hp⟩:=o.out J h1 j i;refine⟨e2,h2,vs,F2,g,⟨max m m2,λN hN=>?_⟩,l.trans r,hr,t,hp⟩;unfold ix;simp only[I,hm N (by omega),p N (by omega)]}| ret=>{obtain⟨vs,g,q1,q2,q3⟩:=o;refine⟨J,h1,vs,F1,g,⟨m,λN hN=>?_⟩,l,l9 j i _ _ q1,i.sub q2,q3⟩;unfold ix;simp only[I,hm N (by omega)]}| exit id=>{exact o.elim}| jN=>{exact o.elim}
def y3(C:Ctx)(f:FuncId)(ys:List Value)(fn:Func)(own0:bA)(de:aA->Value->bA->Prop)(l:Value)(k:ck)(F:aA)(own:bA):Prop:=
 ∃oin fr g,jD C l f ys F oin g/\own.Perm (oin++fr)/\∀j i,aA.le F j->g j i->NC C fn own0 de .ret k j (i++fr)
def Pe(C:Ctx)(f:FuncId)(ys:List Value)(fn:Func)(own0:bA)(de:aA->Value->bA->Prop):Ex->ck->aA->bA->Prop
 | .exit _,_,_,_=>False
 | .jN,k,F,own=>y3 C f ys fn own0 de (xE C) k F own
 | _,k,F,own=>y3 C f ys fn own0 de .nilIface k F own
theorem DW.defer{a rest:Code}{ops pre:List Oper}{o:Oper}{fo:Operand}(hd:pt a=some (ops,pre,o,fo))(ae:pre.all (λo=>xR o.op)=true)
  (h:WT C n ops pre k F own λk1 F1 i _=>∃f ys,bg C k1 fo=some (.func (.func f) ⟨[]⟩ ⟨ys⟩)/\AW C n rest (ew n k1 o.dst bX) F1 i (Pe C f ys fn own0 de)):DW C n (.seq a rest) k F own fn own0 de:=by
 refine⟨λe h0 hk hs=>?_⟩;obtain⟨e1,h1,tr,k1,F1,i,rs,⟨m1,al⟩,t,an,ao,_,f,ys,ar,av⟩:=h e h0 hk hs;obtain⟨x,e2,h2,k2,F2,own2,⟨m2,a0⟩,a1,a2,a3,hq⟩:=av (e1.put o.dst bX) h1 (t.put _ _) ao;have fin:∀rv,y3 C f ys fn own0 de rv k2 F2 own2->(∀N j,max m1 m2<=N->lN C (exec C N) rv f ys h2=some j->ix C (exec C N) (.seq a rest) e h0=some (e2,j))-> ∃e' h' vs F' g,(∃m,∀N,m<=N->ix C (exec C N) (.seq a rest) e h0=some (e',h'))/\aA.le F F'/\gW C e' h' fn.results.toList=some vs/\St F' (g++own0) h'/\de F' (ff vs) g:=by{rintro rv ⟨oin,fr,a7,spec,l,I⟩ a8;obtain⟨j,F3,g,⟨m3,a9⟩,J,P,hP⟩:=spec fr h2 (a3.perm l);obtain⟨vs,oo,q1,q2,q3⟩:=I F3 g J hP;exact⟨e2,j,vs,F3,oo,⟨max (max m1 m2) m3,λN p=>a8 N j (by omega) (a9 N (by omega))⟩,an.trans (a2.trans J),l9 a1 P _ _ q1,P.sub q2,q3⟩};have base:∀N,max m1 m2<=N->lD C (λ_ _ _=>none) (λ_ _ _=>none) ops pre e h0=some (false,e1,h1)/\exec C N rest (e1.put o.dst bX) h1=some (x,e2,h2):=λN p=> ⟨ss _ _ _ _ _ _ (λo ho=>TM.1 ae o ho) (al N (by omega)),a0 N (by omega)⟩;have r:=t.eval _ _ ar;cases x with| exit id=>{exact hq.elim}| jN=>{refine fin _ hq λN j p R=>?_;obtain⟨U,b2⟩:=base N p;unfold ix;simp only[hd,U,r,b2,R,Tq]}| normal=>{refine fin _ hq λN j p R=>?_;obtain⟨U,b2⟩:=base N p;unfold ix;simp only[hd,U,r,b2,R,Tq]}| ret=>{refine fin _ hq λN j p R=>?_;obtain⟨U,b2⟩:=base N p;unfold ix;simp only[hd,U,r,b2,R,Tq]}
theorem Spec.SK{f:FuncId}{c:Code}{args:List Value}{oin:bA}(p:C.func f=some fn)(r:fn.body=some c)(t:max fn.ntmps args.length=n)
  (h:∀own,DW C n c (uh args 0) F (oin++own) fn own de) (i:C.fact f=none:=by rfl) (j:C.DE f=true:=by rfl):Spec C f args F oin de:=by
 subst t;intro own I hs;obtain⟨U,h1,vs,J,g,⟨m,hm⟩,l,P,o,hp⟩:=(h own).out (iO fn.ntmps args) I (eI.args _ _) hs;refine⟨ff vs,h1,J,g,⟨m,λN R=>?_⟩,l,o,hp⟩;unfold call cC;simp only[i,p,r,j,xf,hm N R,P]
end
end Go.Abs
/-
 A function whose contract the library has: sorting by a comparison that reads no memory.
-/
set_option linter.unusedVariables false
namespace Go.Abs
open Go Go.Sort Go.Shelf Go.Proofs Go.RowKit
section
variable {C:Ctx}{P:Program}
theorem Li{σ:bD}:∀{v v':Value},gQ v=true->aX σ v v'->v'=v
 | .int _ _,_,_,h=>h
 | .bool _,_,_,h=>h
theorem Cf{σ:bD}:∀{vs l:List Value},vs.all gQ=true->aV σ vs l->l=vs
 | [],_,_,h=>h
 | v::vs,_,hw,⟨a,b,e,r,s⟩=>by{simp only[List.all_cons,tx] at hw;rw[e,Li hw.1 r,Cf hw.2 s]}
theorem j9{σ:bD}:∀{vs:List Value},vs.all gQ=true->aV σ vs vs
 | [],_=>rfl
 | .int _ _::vs,h=>⟨_,_,rfl,rfl,j9 (by simpa [gQ] using h)⟩
 | .bool _::vs,h=>⟨_,_,rfl,rfl,j9 (by simpa [gQ] using h)⟩
theorem Kw{w j:World}{n J:Nat}{σ o:bD}{g R:Nat->Option aJ}(U:∀i,g i=none)(ev:Ev σ g n w o R J j):∃q l,j=grow (w.drewN q) l:=by
 refine⟨j.drawn-w.drawn,j.heap.extract w.heap.size j.heap.size,?_⟩;have h1:j.heap=w.heap++j.heap.extract w.heap.size j.heap.size:=by{apply Array.ext_getElem?;intro k;rw[Array.getElem?_append];split;{rename_i hk;exact ev.oL k hk λi _ _ h=>by rw[U] at h;cases h};{rename_i hk;rw[Array.getElem?_extract];have:=ev.size;split;{congr 1;omega};{rw[VX (by omega)]}}};have p:=ev.os;have r:=ev.out;have t:=ev.tape.same;have h5:=ev.tape.more;obtain⟨hp,tp,dr,os,out⟩:=w;obtain⟨ab,ac,ad,l,I⟩:=j;simp only at h1 p r t h5;subst p r t;unfold grow World.drewN;simp only[World.mk.injEq,and_self,Vs,Vd];exact⟨h1,by omega⟩
section
variable {σ:bD}{h:au}{w:World}{i:Nat}{cs cs':List Value}{l:Loc}
theorem GV(hs:cM σ h.get w)(g:h.get i=some (.cells false cs))(R:σ i=some l)(hw:cs.all gQ=true) :
  ∃arr ty,w.heap[l.bQ]?=some (.cells arr ty (0,0))/\arr.size=l.size/\l.off+cs.length<=arr.size/\∀j,j<cs.length->arr[l.off+j]?=cs[j]?:=by
 obtain⟨l2,o,arr,ty,fr,r,t,I,p,J⟩:=hs.bQ i _ g;rw[R] at o;cases o;obtain rfl:=I rfl;refine⟨arr,ty,r,t,p,λj U=>?_⟩;have:((arr.toList.drop l.off).take cs.length)[j]?=cs[j]?:=by{rw[Cf hw J]};rw[VK U,Tu,TK] at this;exact this
theorem Kj(hs:cM σ h.get w)(o:h.get i=some (.cells false cs))(t:σ i=some l)(hw:cs.all gQ=true):Holds id w l.bQ (l.off+0) cs.toArray:=by
 obtain⟨arr,ty,p,_,_,g⟩:=GV hs o t hw;intro j r;have r:j<cs.length:=by{simpa using r};constructor;{simp only[World.cell?,p,UA];rw[g j r,To r];simp[r]};{simp[World.frozen?,p]}
theorem N0(hs:cM σ h.get w)(g:h.get i=some (.cells false cs))(hl:σ i=some l)(hw:cs.all gQ=true)(af:cs'.all gQ=true)(hlen:cs'.length=cs.length)(m:Nat)(os:Array Obj) :
  cM σ (h.put i (some (.cells false cs'))).get (grow (putRow id (Go.Sort.ahead w m) l.bQ (l.off+0) cs'.toArray) os)/\
  Ev σ h.get h.next w σ (h.put i (some (.cells false cs'))).get h.next (grow (putRow id (Go.Sort.ahead w m) l.bQ (l.off+0) cs'.toArray) os):=by
 obtain⟨arr,ty,ag,al,U,J⟩:=GV hs g hl hw;generalize o:putRow id (Go.Sort.ahead w m) l.bQ (l.off+0) cs'.toArray=p;have aa:∀k,p.heap[k]?=if l.bQ=k then (w.heap[k]?).map (onCells (putCells id (l.off+0) cs'.toArray)) else w.heap[k]?:=λk=>by{subst o;exact Array.getElem?_modify ..};have an:p.heap.size=w.heap.size:=by{subst o;simp[putRow,mapBlock]};have ao:p.os=w.os:=by{subst o;rfl};have ar:p.output=w.output:=by{subst o;rfl};have av:jF w p:=by{subst o;exact⟨rfl,V3 _ _⟩};have ab:∀k,k≠l.bQ->p.heap[k]?=w.heap[k]?:=λk hk=>by{rw[aa,nw (Ne.symm hk)]};have ax:p.heap[l.bQ]?=some (.cells (putCells id (l.off+0) cs'.toArray arr) ty (0,0)):=by{rw[aa,n0 rfl,ag];rfl};have t:(putCells id (l.off+0) cs'.toArray arr).size=arr.size:=by{simp[putCells]};have ac:om σ p l (.cells false cs'):=by{refine⟨_,ty,(0,0),ax,by rw[t,al],λ_=>rfl,by rw[t,hlen];exact U,?_⟩;have key:∀Y:List Value,(∀j:Nat,cs'[j]?=Y[j]?)->aV σ cs' Y:=λY hY=>by{rw[<-Tn hY];exact j9 af};refine key _ λj=>?_;by_cases hj:j<cs'.length;{have ha:∃x,arr[l.off+j]?=some x:=⟨_,by rw[J j (by omega)];exact To (by omega)⟩;obtain⟨x,ha⟩:=ha;have ad:(putCells id (l.off+0) cs'.toArray arr).toList[l.off+j]?=some (id cs'.toArray[l.off+j-(l.off+0)]!):=by{rw[TK];simp only[putCells,Array.getElem?_mapIdx,ha,Tq];rw[n0 ⟨by omega,by simp;omega⟩]};rw[VK hj,Tu,ad,show l.off+j-(l.off+0)=j by omega,To hj];simp[hj]};{rw[zE (by omega),zE (by rw[Tg];omega)]}};have R:(h.put i (some (.cells false cs'))).get=dx h.get i (some (.cells false cs')):=by{funext j;rw[au.dX];rfl};rw[R];have I:=hs.change g rfl rfl hl ab ac;have a1:Ev σ h.get h.next w σ (dx h.get i (some (.cells false cs'))) h.next p:=Ev.change h.next g rfl hl an ab ao ar av;refine⟨⟨λj b q=>let ⟨l,x,y⟩:=I.bQ j b q;⟨l,x,y.world (heap_grow_old p os y.lt)⟩,I.inj⟩,a1.trans ⟨by rw[size_grow];omega,rfl,rfl,.rfl,λb hb _=>heap_grow_old p os hb,λj B l h r s=>.inr ⟨j,B,l,h,r,s,rfl⟩,λ_ _=>rfl⟩ (mc _) (mc _)⟩
end
def lz{α:Type}[Inhabited α](k:Nat)(enc:α->List Value)(dec:List Value->Option (List α))(lt:α->α->Bool)(g:FuncId):List Value->au->Option (Value×au):=λargs h=>
 match args with
 | [.slice (some ⟨b,0,none⟩) n c,.func (.func f) ⟨[]⟩ ⟨[]⟩]=>match h.get b with
  | some (.cells false cs)=>match dec cs with
   | some xs=>bif Nat.beq f g&&Nat.beq c k&&Nat.beq xs.length n&&Nat.blt 0 n&&Nat.ble n 1000000 then some (.tuple ⟨[]⟩,h.put b (some (.cells false ((Go.Sort.sort lt xs.toArray).toList.flatMap enc)))) else none
   | none=>none
  | _=>none
 | [.slice none n c,.func (.func f) ⟨[]⟩ ⟨[]⟩]=>bif Nat.beq f g then some (.tuple ⟨[]⟩,h) else none
 | _=>none
theorem Ak{α:Type}[Inhabited α]{k:Nat}{enc:α->List Value}(hk:∀x,(enc x).length=k)(xs:List α):flatK enc k xs.toArray=(xs.flatMap enc).toArray:=by
 have hlen:∀ys:List α,(ys.flatMap enc).length=ys.length*k:=λys=>by{induction ys with| nil=>{simp}| cons y ys j=>{rw[Ur,sj,j,hk,IT,Vx,Vi]}};have i:∀(ys:List α) (t:Nat),t<ys.length*k->(ys.flatMap enc)[t]?=some (enc ys.toArray[t / k]!)[t % k]!:=λys=>by{induction ys with| nil=>{intro t g;simp at g}| cons y ys j=>{intro t g;have l:0<k:=by{rcases Ts k with h | h;{subst h;simp at g};{exact h}};rw[Ur];by_cases h:t<k;{rw[AT (by rw[hk];exact h),Nat.div_eq_of_lt h,Nat.mod_eq_of_lt h];rw[To (by rw[hk];exact h)];simp[hk,h]};{rw[OF (by rw[hk];omega),hk];have h1:t-k<ys.length*k:=by{rw[IT,Vx] at g;omega};rw[j _ h1];have p:t / k=(t-k) / k+1:=by{have:t=(t-k)+k:=by{omega};rw[this,Nat.add_div_right _ l];simp};have r:t % k=(t-k) % k:=by{have:t=(t-k)+k:=by{omega};rw[this,Nat.add_mod_right];simp};have o:(t-k) / k<ys.length:=Nat.div_lt_of_lt_mul (by rw[Nat.mul_comm];exact h1);rw[p,r];simp[o]}}};apply Array.ext;{simp[hlen]};{intro t h1 o;have g:t<xs.length*k:=by{simpa using h1};have I:t<(xs.flatMap enc).length:=by{rw[hlen];exact g};have e:=i xs t g;rw[To I] at e;have e:=aE e;simp only[List.getElem_toArray];rw[e];simp[flatK]}
theorem B0{C0:Ctx}(ok:C0.Ok P)(o:eE C0 P){g:FuncId}{args:List Value}{v0:Value}{m:Nat}(J:∀σ,aV σ args args)(p:∀σ v,aX σ v0 v->v=v0)(hm:(call C0 m g args ⟨C0.cA,.e⟩).map (·.1)=some v0)(W:World) :
  Calls P g ⟨args⟩ W λe I=>e=.returned v0/\∃q r,I=grow (W.drewN q) r:=by
 have l:∀i,(⟨C0.cA,.e⟩:au).get i=none:=λi=>rfl;obtain⟨⟨v,h'⟩,t,rfl⟩:=VY.1 hm;refine((tH ok o m).run g _ _ _ _ t (λi b h=>(by rw[l] at h;cases h)) (λi=>if i<C0.cA then some ⟨i,0,0⟩ else none) W args (λi hi=>⟨⟨i,0,0⟩,n0 hi,rfl,rfl⟩) ⟨λi b h=>(by rw[l] at h;cases h),λi j b c li lj h=>(by rw[l] at h;cases h)⟩ (J _) (λi hi _=>nw (by simp only at hi;omega))).mono ?_;rintro e I ⟨v',R,rfl,U,_,ev⟩;exact⟨by rw[p _ _ U],Kw l ev⟩
theorem C2{C0:Ctx}(ok:C0.Ok P)(j:eE C0 P){g:FuncId}{args:List Value}{v0:Value}(J:∀σ,aV σ args args)(l:∀σ v,aX σ v0 v->v=v0)(spec:∀F,Spec C0 g args F [] λ_ v o=>o=[]/\v=v0)(W:World) :
  Calls P g ⟨args⟩ W λe R=>e=.returned v0/\∃q r,R=grow (W.drewN q) r:=by
 have t:∀i,(⟨C0.cA,.e⟩:au).get i=none:=λi=>rfl;obtain⟨v,U,F',I,⟨m,hm⟩,_,_,_,rfl⟩:=spec (λ_=>none) [] ⟨C0.cA,.e⟩ ⟨λi b h=>(by cases h),λp hp=>(by cases hp),λp hp=>(by cases hp),UF,λi b h=>(by rw[t] at h;cases h)⟩;exact B0 ok j (m:=m) J l (by rw[hm m (mc _)];rfl) W
theorem Jc{σ:bD}{h:au}{w:World}(hs:cM σ h.get w)(q:Nat)(os:Array Obj):cM σ h.get (grow (w.drewN q) os)/\Ev σ h.get h.next w σ h.get h.next (grow (w.drewN q) os):=by
 have i:∀b,b<w.heap.size->(grow (w.drewN q) os).heap[b]?=w.heap[b]?:=λb g=>heap_grow_old (w.drewN q) os g;refine⟨⟨λj b e=>let ⟨l,x,y⟩:=hs.bQ j b e;⟨l,x,y.world (i _ y.lt)⟩,hs.inj⟩,⟨by rw[size_grow];exact V3 _ _,rfl,rfl,⟨rfl,V3 _ _⟩,λb g _=>i b g,λj B l h r s=>.inr ⟨j,B,l,h,r,s,rfl⟩,λ_ _=>rfl⟩⟩
theorem lP{α:Type}{enc:α->List Value}(h:∀x,(enc x).all gQ=true):∀xs:List α,(xs.flatMap enc).all gQ=true
 | []=>rfl
 | x::xs=>by rw[Ur,List.all_append,h,lP h xs];rfl
theorem pY{α:Type}{k:Nat}{enc:α->List Value}(hk:∀x,(enc x).length=k):∀xs:List α,(xs.flatMap enc).length=xs.length*k
 | []=>by simp
 | x::xs=>by rw[Ur,sj,hk,pY hk xs,IT,Vx,Vi]
theorem Ka{α:Type}[Inhabited α]{k:Nat}{enc:α->List Value}{dec:List Value->Option (List α)}{j:α->α->Int}{f g:FuncId}(hk:∀x,(enc x).length=k)(hw:∀x,(enc x).all gQ=true)(t:∀cs xs,dec cs=some xs->cs=xs.flatMap enc)(hO:SWO (ltOf j))
  (I:∀(bQ off cap:Nat) (d:Array α) (w:World),HoldsK enc k w bQ off d->bQ<w.heap.size->d.size<4611686018427387904->
   Calls P f #[.slice (some ⟨bQ,off,none⟩) d.size cap,.func (.func g) #[] #[]] w λe J=>e=.returned (.tuple #[])/\∃n os,J=sortWorldK enc k w bQ off n (pdq (ltOf j) d 0 d.size (Lib.bitLen d.size) true true) os)
  (R:∀W,Calls P f #[.slice none 0 0,.func (.func g) #[] #[]] W λe J=>e=.returned (.tuple #[])/\∃q aa,J=grow (W.drewN q) aa):mg C P f (lz k enc dec (ltOf j) g):=by
 intro args h v h' e;unfold lz at e;split at e;{rename_i b n c f';split at e;(case h_2=>cases e);rename_i cs i;split at e;(case h_2=>cases e);rename_i xs hx;cases o:(Nat.beq f' g&&Nat.beq c k&&Nat.beq xs.length n&&Nat.blt 0 n&&Nat.ble n 1000000) with| false=>{rw[o] at e;cases e}| true=>{rw[o] at e;simp only[xf,sw,Tk] at e;obtain⟨rfl,rfl⟩:=e;simp only[tx] at o;obtain⟨⟨⟨⟨c1,c2⟩,c3⟩,c4⟩,c5⟩:=o;obtain rfl:=Mr c1;obtain rfl:=Mr c2;obtain rfl:=Mr c3;have c4:0<xs.length:=TH c4;have c5:=TH c5;obtain rfl:=t _ _ hx;refine⟨fu.put h i rfl,λhb σ w args' gl oP hv hn=>?_⟩;obtain⟨a1,r1,rfl,p,a2,r2,rfl,r,rfl⟩:=hv;obtain⟨l,a',cap,hl,_,rfl,ar,_,ae⟩:=p;obtain⟨x1,y1,rfl,rfl,rfl⟩:=r;obtain⟨rfl,_⟩:=ae (by omega);obtain⟨arr,ty,U,_⟩:=GV oP i hl (lP hw xs);have hblk:l.bQ<w.heap.size:=by{rcases IN l.bQ w.heap.size with h | h;{exact h};{rw[VX h] at U;cases U}};have hH:HoldsK enc c w l.bQ (l.off+0) xs.toArray:=by{unfold HoldsK;rw[Ak hk];exact Kj oP i hl (lP hw xs)};have af:Lib.bitLen xs.toArray.size=bitsLen xs.toArray.size:=bitLen_eq _ (by simp only[List.size_toArray];omega);refine(I l.bQ (l.off+0) cap xs.toArray w hH hblk (by simp only[List.size_toArray];omega)).mono ?_;rintro e J ⟨rfl,m,os,rfl⟩;rw[af];have ag:(Go.Sort.sort (ltOf j) xs.toArray).size=xs.length:=by{have:=(pdq_sorts (ltOf j) hO xs.toArray 0 xs.toArray.size (bitsLen xs.toArray.size) true true (If _) (mc _) (Or.inl rfl)).1.1;unfold Go.Sort.sort;simpa using this};have key:=N0 (cs':=(Go.Sort.sort (ltOf j) xs.toArray).toList.flatMap enc) oP i hl (lP hw _) (lP hw _) (by rw[pY hk,pY hk,UO,ag]) m os;have al:flatK enc c (Go.Sort.sort (ltOf j) xs.toArray)=((Go.Sort.sort (ltOf j) xs.toArray).toList.flatMap enc).toArray:=by{rw[<-Ak hk]};rw[<-al] at key;exact⟨.tuple #[],σ,rfl,⟨[],rfl,rfl⟩,key⟩}};{rename_i n c f';cases o:Nat.beq f' g with| false=>{rw[o] at e;cases e}| true=>{rw[o] at e;simp only[xf,sw,Tk] at e;obtain⟨rfl,rfl⟩:=e;obtain rfl:=Mr o;refine⟨fu.refl h,λhb σ w args' gl oP hv hn=>?_⟩;obtain⟨a1,r1,rfl,p,a2,r2,rfl,r,rfl⟩:=hv;obtain⟨rfl,rfl,rfl⟩:=p;obtain⟨x1,y1,rfl,rfl,rfl⟩:=r;refine(R w).mono ?_;rintro e J ⟨rfl,q,os,rfl⟩;exact⟨.tuple #[],σ,rfl,⟨[],rfl,rfl⟩,Jc oP q os⟩}};{cases e}
theorem CE{α:Type}[Inhabited α]{lt:α->α->Bool}(g:SWO lt)(xs:List α):(Go.Sort.sort lt xs.toArray).toList.length=xs.length:=by
 have:=(pdq_sorts lt g xs.toArray 0 xs.toArray.size (bitsLen xs.toArray.size) true true (If _) (mc _) (Or.inl rfl)).1.1;unfold Go.Sort.sort;simpa using this
theorem An{α:Type}{R:Ty α}{F:aA}{enc:α->List Value}(h:∀x,R.rel F (enc x) x):∀xs:List α,aG R F (xs.flatMap enc) xs
 | []=>.nil
 | x::xs=>by rw[Ur];exact .cons (h x) (An h xs)
theorem GJ{α:Type}{R:Ty α}{F:aA}{enc:α->List Value}(h:∀l x,R.rel F l x->l=enc x){cs:List Value}{xs:List α}(g:aG R F cs xs):cs=xs.flatMap enc:=by
 induction g with| nil=>{rfl}| cons h1 _ i=>{rw[Ur,h _ _ h1,i]}
theorem Spec.sort{α:Type}[Inhabited α]{R:Ty α}{enc:α->List Value}{dec:List Value->Option (List α)}{lt:α->α->Bool}{f g:FuncId}{F:aA}(hf:C.fact f=some (lz R.size enc dec lt g))(hO:SWO lt)(hR:∀F l x,R.rel F l x->l=enc x)(U:∀F x,R.rel F (enc x) x)
  (r:∀xs,dec (xs.flatMap enc)=some xs) {a:Option Addr} {m c:Nat} {B:List (Nat×aJ)} {xs:List α} (j:mn R F a m c B xs) (t:xs=[]->a=none) (hm:m<=1000000) :
  Spec C f [.slice a m c,.func (.func g) ⟨[]⟩ ⟨[]⟩] F [B] λF' v o=>∃B',o=[B']/\mn R F' a m c B' (Go.Sort.sort lt xs.toArray).toList:=by
 (refine Spec.known hf λown h hs=>?_;have hl:=j.len;rcases j.el with rfl | ⟨i,cs,rfl,rfl,hc,h0⟩);{obtain rfl:=t rfl;obtain⟨rfl,rfl⟩:=j.nil rfl;refine⟨_,h,_,by unfold lz;simp only[UX,xf];rfl,hs,B,rfl,?_⟩;have:=CE hO ([]:List α);rw[BY this];exact j};{have hx:xs≠[]:=λe=>by{have:=t e;cases this};have I:0<xs.length:=List.length_pos_iff.2 hx;obtain rfl:c=R.size:=j.cap.resolve_left λe=>by{have:=j.zero e;omega};obtain rfl:=GJ (hR F) hc;have J:=St.has (p:=0) hs rfl (D2 ..);subst hl;have hz:lz R.size enc dec lt g [.slice (some ⟨i,0,none⟩) xs.length R.size,.func (.func g) ⟨[]⟩ ⟨[]⟩] h=some (.tuple ⟨[]⟩,h.put i (some (.cells false ((Go.Sort.sort lt xs.toArray).toList.flatMap enc)))):=by{unfold lz;simp only[J,r,UX,show Nat.blt 0 xs.length=true from Tj I,show Nat.ble xs.length 1000000=true from Tj hm,Uh,xf]};refine⟨_,_,_,hz,St.put (p:=0) (q:=0) hs rfl rfl _,_,rfl,?_⟩;exact⟨(CE hO xs).symm,j.cap,j.zero,j.nil,j.spot,.inr ⟨i,_,rfl,rfl,An (U F) _,h0⟩⟩}
end
end Go.Abs
/-
 A call apart: what a function gives at known arguments is known,for a closed run in pieces.
-/
set_option linter.unusedVariables false
namespace Go.Abs
open Go
mutual
def RA(n:Nat):Value->Bool
 | .int _ _=>true
 | .bool _=>true
 | .pointer none=>true
 | .pointer (some a)=>Nat.blt a.block n
 | .slice none _ _=>true
 | .slice (some a) _ _=>Nat.blt a.block n
 | .map none=>true
 | .map (some r)=>Nat.blt r n
 | .agg ⟨l⟩=>G8 n l
 | .tuple ⟨l⟩=>G8 n l
 | _=>false
def G8(n:Nat):List Value->Bool
 | []=>true
 | v::l=>RA n v&&G8 n l
end
section
variable {n:Nat}{σ τ:bD}
mutual
theorem Ih(h:∀i,i<n->τ i=σ i):∀{v v':Value},RA n v=true->aX σ v v'->aX τ v v'
 | .int _ _,_,_,r=>r
 | .bool _,_,_,r=>r
 | .pointer none,_,_,r=>r
 | .pointer (some a),_,q,r=>by obtain⟨l,e,r⟩:=r;exact⟨l,by rw[h _ (TH q)];exact e,r⟩
 | .slice none _ _,_,_,r=>r
 | .slice (some a) _ _,_,q,r=>by obtain⟨l,x,c,e,r⟩:=r;exact⟨l,x,c,by rw[h _ (TH q)];exact e,r⟩
 | .map none,_,_,r=>r
 | .map (some a),_,q,r=>by obtain⟨l,e,r⟩:=r;exact⟨l,by rw[h _ (TH q)];exact e,r⟩
 | .agg ⟨l⟩,_,q,r=>by obtain⟨x,e,r⟩:=r;exact⟨x,e,ny h q r⟩
 | .tuple ⟨l⟩,_,q,r=>by obtain⟨x,e,r⟩:=r;exact⟨x,e,ny h q r⟩
theorem ny(h:∀i,i<n->τ i=σ i):∀{vs l:List Value},G8 n vs=true->aV σ vs l->aV τ vs l
 | [],_,_,r=>r
 | v::vs,_,q,r=>by{obtain⟨a,b,e,r,s⟩:=r;simp only[G8,tx] at q;exact⟨a,b,e,Ih h q.1 r,ny h q.2 s⟩}
end
end
def u4:aJ->aJ
 | .cells _ cs=>.cells true cs
 | b=>b
def Q3(n:Nat):aJ->Bool
 | .cells _ cs=>G8 n cs
 | .map _=>false
def CN:List (Nat×aJ)->T aJ->T aJ
 | [],t=>t
 | p::l,t=>(CN l t).set p.1 (some p.2)
theorem Cn{t:T aJ}{i:Nat}{b:aJ}:∀{l:List (Nat×aJ)},(CN l t).get i=some b->(i,b)∈l\/t.get i=some b
 | [],h=>.inr h
 | p::l,h=>by{rw[CN,T.je] at h;split at h;{rename_i e;cases h;subst e;exact .inl (D2 ..)};{exact(Cn h).imp (mb _) id}}
def qO(a0:List Value)(blks:List (Nat×aJ))(nx g:Nat)(v0:Value)(news:List (Nat×aJ)):List Value->au->Option (Value×au):=λargs h=>
 bif jg args a0&&Nat.beq h.next nx&&blks.all (λp=>lW (h.get p.1) (some p.2)) then some (v0,⟨g,CN news h.t⟩) else none
def kV(C:Ctx)(m:Nat)(f:FuncId)(a0:List Value)(blks:List (Nat×aJ))(nx g:Nat)(v0:Value)(news:List (Nat×aJ)):Bool:=
 (match call C m f a0 ⟨nx,iP (blks.map λp=>(p.1,u4 p.2))⟩ with
  | some (v,h1)=>cg v v0&&Nat.beq h1.next g&&news.all (λp=>lW (h1.get p.1) (some p.2))
  | none=>false)&&G8 nx a0&&blks.all (λp=>Nat.blt p.1 nx&&Q3 nx p.2)&&RA g v0&&Nat.ble nx g&&Nat.ble C.cA nx&&news.all (λp=>Nat.ble nx p.1&&Nat.blt p.1 g&&Q3 g p.2&&!p.2.ro)
section
variable {C C0:Ctx}{P:Program}
theorem od(ok:C0.Ok P)(ba:eE C0 P)(hC:C0.cA=C.cA){m:Nat}{f:FuncId}{a0:List Value}{blks:List (Nat×aJ)}{nx n1:Nat}{v0:Value}{news:List (Nat×aJ)}(R:kV C0 m f a0 blks nx n1 v0 news=true):mg C P f (qO a0 blks nx n1 v0 news):=by
 intro args h v h' e;unfold qO at e;cases hc:(jg args a0&&Nat.beq h.next nx&&blks.all (λp=>lW (h.get p.1) (some p.2))) with| false=>{rw[hc] at e;cases e}| true=>{rw[hc] at e;simp only[xf,sw,Tk] at e;obtain⟨rfl,rfl⟩:=e;simp only[tx] at hc;obtain⟨⟨c1,c2⟩,c3⟩:=hc;obtain rfl:=jA c1;obtain rfl:=Mr c2;unfold kV at R;simp only[tx] at R;obtain⟨⟨⟨⟨⟨⟨r1,r2⟩,r3⟩,r4⟩,r5⟩,r6⟩,rn⟩:=R;split at r1;(case h_2=>cases r1);rename_i v1 h1 a1;simp only[tx] at r1;obtain⟨⟨r7,r8⟩,r9⟩:=r1;obtain rfl:=iU r7;obtain rfl:=Mr r8;have r5:=TH r5;have r6:=TH r6;have g:∀{i b},(i,b)∈news->h.next<=i/\i<h1.next/\Q3 h1.next b=true/\b.ro=false/\h1.get i=some b:=λ{i b} q=>by{have h4:=TM.1 rn _ q;simp only[tx,TZ] at h4;exact⟨TH h4.1.1.1,TH h4.1.1.2,h4.1.2,h4.2,pz (TM.1 r9 _ q)⟩};have o:∀{i b},(⟨h1.next,CN news h.t⟩:au).get i=some b->(i,b)∈news\/h.get i=some b:=λ{i b} q=>Cn q;refine⟨⟨r5,λi hi e=>?_,λi b e q=>?_,λw i b q=>?_⟩,λhb σ w args' gl oP hv hn=>?_⟩;{cases q:(⟨h1.next,CN news h.t⟩:au).get i with| none=>{rfl}| some b=>{rcases o q with q | q;{have:=(g q).1;omega};{rw[e] at q;cases q}}};{rcases o e with e | e;{rw[(g e).2.2.2.1] at q;cases q};{exact e}};{rcases o q with q | q;{exact(g q).2.1};{exact Ti (w i b q) r5}};have U:∀i b,(⟨h.next,iP (blks.map λp=>(p.1,u4 p.2))⟩:au).get i=some b->∃c,h.get i=some c/\b=u4 c/\i<h.next/\Q3 h.next c=true:=λi b q=>by{obtain⟨p,h2,h3⟩:=x6.1 (qx _ i b q);cases h3;have h4:=TM.1 r3 _ h2;simp only[tx] at h4;exact⟨p.2,pz (TM.1 c3 _ h2),rfl,TH h4.1,h4.2⟩};have an:∀{i b},(⟨h.next,iP (blks.map λp=>(p.1,u4 p.2))⟩:au).get i=some b->b.ro=true:=λ{i b} q=>by{obtain⟨c,_,rfl,_,h5⟩:=U i b q;cases c with| cells r cs=>{rfl}| map _=>{cases h5}};obtain⟨σ0,ar⟩:∃σ0:bD,σ0=λi=>if i<h.next then σ i else none:=⟨_,rfl⟩;have h0:∀i,i<h.next->σ0 i=σ i:=λi hi=>by{rw[ar];exact n0 hi};have a4:kv C0 σ0:=λi hi=>by{obtain⟨l,e1,e2⟩:=gl i (by rw[<-hC];exact hi);exact⟨l,by rw[h0 i (by omega)];exact e1,e2⟩};have a2:cM σ0 (⟨h.next,iP (blks.map λp=>(p.1,u4 p.2))⟩:au).get w:=by{constructor;{intro i b q;obtain⟨c,e1,rfl,e2,e3⟩:=U i b q;obtain⟨l,e4,e5⟩:=oP.bQ i c e1;refine⟨l,by rw[h0 i e2];exact e4,?_⟩;cases c with| cells r cs=>{obtain⟨a,t,fr,q1,I,q3,q4,q5⟩:=e5;exact⟨a,t,fr,q1,I,λe=>(by cases e),q4,ny h0 e3 q5⟩}| map _=>{cases e3}};{intro i j b c li lj q1 I _ q3;rw[an q1,an I] at q3;simp at q3}};refine((tH ok ba m).run f _ _ _ _ a1 (λi b q=>by obtain⟨_,_,_,e,_⟩:=U i b q;exact e) σ0 w args' a4 a2 (ny h0 r2 hv) (λi hi _=>by rw[ar];exact nw (by simp only at hi;omega))).mono ?_;rintro en w' ⟨v',a5,rfl,bc,av,ev⟩;have ab:∀b,b<w.heap.size->w'.heap[b]?=w.heap[b]?:=λb hb=>ev.oL b hb λi B l q1 I=>by{rw[an q1] at I;cases I};obtain⟨J,ax⟩:∃J:bD,J=λi=>if h.next<=i/\i<h1.next then a5 i else σ i:=⟨_,rfl⟩;have h2:∀i,i<h1.next->J i=a5 i:=λi hi=>by{rw[ax];by_cases q:h.next<=i;{exact n0 ⟨q,hi⟩};{rw[ev.sig i (.inl (by simp only;omega)),h0 i (by omega)];exact nw (by omega)}};have h3:∀i,i<h.next\/h1.next<=i->J i=σ i:=λi hi=>by{rw[ax];exact nw (by omega)};have ac:∀{i b l},(i,b)∈news->J i=some l->w.heap.size<=l.bQ:=λ{i b l} q I=>by{obtain⟨_,c2,_,c4,c5⟩:=g q;rw[h2 i c2] at I;rcases ev.own i b l c5 c4 I with c | ⟨j,D,m,d1,d2,_⟩;{exact c};{rw[an d1] at d2;cases d2}};have ay:∀{i b l},h.get i=some b->J i=some l->l.bQ<w.heap.size:=λ{i b l} q I=>by{obtain⟨l2,e1,e2⟩:=oP.bQ i b q;rw[h3 i (.inl (hb i b q)),e1] at I;cases I;exact e2.lt};refine⟨v',J,rfl,Ih h2 r4 bc,⟨λi b q=>?_,λi j b c li lj q1 I q3 q4 q5 q6=>?_⟩,ev.size,ev.os,ev.out,ev.tape,λb hb _=>ab b hb,λi B l q1 I q3=>?_,h3⟩;{rcases o q with q | q;{obtain⟨_,c2,c3,_,c5⟩:=g q;obtain⟨l,e1,e2⟩:=av.bQ i b c5;refine⟨l,by rw[h2 i c2];exact e1,?_⟩;cases b with| cells r cs=>{obtain⟨a,t,fr,q1,I,q3,q4,q5⟩:=e2;exact⟨a,t,fr,q1,I,q3,q4,ny h2 c3 q5⟩}| map _=>{cases c3}};{have hi:=hb i b q;obtain⟨l,e1,e2⟩:=oP.bQ i b q;refine⟨l,by rw[h3 i (.inl hi)];exact e1,?_⟩;exact(e2.world (ab _ e2.lt_size)).mono λj l2 I=>by{rcases IN j h.next with q3 | q3;{rw[h3 j (.inl q3)];exact I};{rcases IN j h1.next with q4 | q4;{rw[hn j q3 q4] at I;cases I};{rw[h3 j (.inr q4)];exact I}}}}};{rcases o q1 with p1 | p1<;>rcases o I with p2 | p2;{obtain⟨_,c2,_,_,c5⟩:=g p1;obtain⟨_,d2,_,_,d5⟩:=g p2;rw[h2 i c2] at q5;rw[h2 j d2] at q6;exact av.inj i j b c li lj c5 d5 q3 q4 q5 q6};{have:=ac p1 q5;have:=ay p2 q6;omega};{have:=ac p2 q6;have:=ay p1 q5;omega};{rw[h3 i (.inl (hb i b p1))] at q5;rw[h3 j (.inl (hb j c p2))] at q6;exact oP.inj i j b c li lj p1 p2 q3 q4 q5 q6}};{rcases o q1 with p | p;{exact .inl (ac p q3)};{exact .inr ⟨i,B,l,p,I,by rw[<-h3 i (.inl (hb i B p))];exact q3,rfl⟩}}}
end
end Go.Abs