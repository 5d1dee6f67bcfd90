/-
  The logic, second part: data in frozen blocks, slices that grow, loops, calls; from contracts to the model.
-/
import Derived.Test.YtcldmcmclejlhaaGreatDoorAbs6
import Derived.ChangeSlices
import Derived.ChangeArms
import Derived.WideShapes
/-
 How plain data lies in frozen blocks: cells,structs,slices.
-/
set_option linter.unusedVariables false
namespace Go.Abs
open Go
structure Ty(α:Type) where
 size:Nat
 rel:aA->List Value->α->Prop
 len:∀F l x,rel F l x->l.length=size
 one:∀F l x,rel F l x->l.all Go.Abs.one=true
 mono:∀F G l x,aA.le F G->rel F l x->rel G l x
structure bk{α:Type}(R:Ty α)(F:aA)(a:Option Addr)(n c:Nat)(xs:List α):Prop where
 len:n=xs.length
 cap:c=0\/c=R.size
 zero:c=0->n=0
 nil:a=none->n=0/\c=0
 spot:∀p,a=some p->p.spot=none
 el:∀(j:Nat) (x:α),xs[j]?=some x->∃b off ro cs l,a=some ⟨b,off,none⟩/\F b=some (.cells ro cs)/\bO cs (off+j*R.size) R.size=some l/\R.rel F l x
theorem bk.mono{α:Type}{R:Ty α}{F G:aA}{a:Option Addr}{n c:Nat}{xs:List α}(h:bk R F a n c xs)(g:aA.le F G):bk R G a n c xs:=
 ⟨h.len,h.cap,h.zero,h.nil,h.spot,λj x i=>
  let ⟨b,off,ro,cs,l,h1,o,p,r⟩:=h.el j x i
  ⟨b,off,ro,cs,l,h1,g _ _ o,p,R.mono F G l x g r⟩⟩
theorem bk.cK{α:Type}(R:Ty α)(F:aA):bk R F none 0 0 ([]:List α):=
 ⟨rfl,.inl rfl,λ_=>rfl,λ_=>⟨rfl,rfl⟩,λp h=>(by cases h),λj x h=>(by simp at h)⟩
def dv:Ty Int where
 size:=1
 rel:=λ_ l x=>l=[.int .i64 x]
 len:=λ_ _ _ h=>by rw[h];rfl
 one:=λ_ _ _ h=>by rw[h];rfl
 mono:=λ_ _ _ _ _ h=>h
def dt:Ty Bool where
 size:=1
 rel:=λ_ l x=>l=[.bool x]
 len:=λ_ _ _ h=>by rw[h];rfl
 one:=λ_ _ _ h=>by rw[h];rfl
 mono:=λ_ _ _ _ _ h=>h
def Dh:Ty Nat where
 size:=1
 rel:=λ_ l x=>l=[.int .u32 x]
 len:=λ_ _ _ h=>by rw[h];rfl
 one:=λ_ _ _ h=>by rw[h];rfl
 mono:=λ_ _ _ _ _ h=>h
def bz{α:Type}(R:Ty α):Ty (List α) where
 size:=1
 rel:=λF l xs=>∃a n c,l=[.slice a n c]/\bk R F a n c xs
 len:=λ_ _ _ h=>by obtain⟨a,n,c,rfl,_⟩:=h;rfl
 one:=λ_ _ _ h=>by obtain⟨a,n,c,rfl,_⟩:=h;rfl
 mono:=λ_ _ _ _ g h=>by obtain⟨a,n,c,e,h⟩:=h;exact⟨a,n,c,e,h.mono g⟩
theorem GK{cs:List Value}{off n fo m:Nat}{l r:List Value}(h:bO cs off n=some l)(i:bO l fo m=some r):bO cs (off+fo) m=some r:=by
 obtain⟨j,t⟩:=fH h;obtain⟨g,o⟩:=fH i;have p:(cs.drop (off+fo)).take m=r:=by{have hm:fo+m<=n\/m=0:=by{have:(l.drop fo).take m=r:=g.symm;have C:r.length<=l.length-fo:=by{rw[g];simp;omega};omega};rcases hm with hm | hm;{rw[g,j,List.drop_take,List.take_take,Vw,show min m (n-fo)=m by omega]};{subst hm;rw[g];simp}};unfold bO;simp only[p,o];simp
theorem Ff{C:Ctx}{cs l:List Value}{off n fo t:Nat}{v:Value}(h:bO cs off n=some l)(q:fN C l t fo=some v):fN C cs t (off+fo)=some v:=by
 unfold fN at q ⊢;cases hu:C.iL t with| none=>{rw[hu] at q;cases q}| some d=>{rw[hu] at q;simp only at q ⊢;cases j:v8 d with| true=>{rw[j] at q;simp only[xf] at q ⊢;split at q;{rename_i m hm;cases g:bO l fo m with| none=>{rw[g] at q;cases q}| some p=>{rw[g] at q;rw[GK h g];exact q}};{cases q}}| false=>{rw[j] at q;simp only[zm] at q ⊢;obtain⟨o,r⟩:=fH h;rw[o] at q;rw[<-q,Tv];have i:fo<n:=by{rcases IN fo n with h | h;{exact h};{rw[Tv,nw (by omega)] at q;cases q}};rw[n0 i,Tu]}}
section
variable {C:Ctx}{T:RT}{n:Nat}{k:ck}{F:aA}{own:bA}{ops rest:List Oper}{o:Oper}{Q:ck->aA->bA->List Rec->Prop}{α:Type}{R:Ty α}
theorem WT.idx(hT:aU C T=true){t e:Nat}{r:Row}{J io:Operand}{a:Option Addr}{m c:Nat}{xs:List α}{x:α}{U:IntKind}{j:Int}(g:bk R F a m c xs)(i:o.op=.indexAddr t J io)(hw:aL ops k o=some true){dst:Nat}(p:o.dst=some dst)(hn:Nat.blt dst n=true)
  (hx:bg C k J=some (.slice a m c)) (hi:bg C k io=some (.int U j)) (hr:rowOf T t=some r) (hd:r.d=.slice e) (hs:ef T e=some R.size) (h0:0<=j) (P:xs[j.toNat]?=some x)
  (h:∀b off ro cs l,F b=some (.cells ro cs)->bO cs off R.size=some l->R.rel F l x->
   WT C n ops rest ((dst,(.pointer (some ⟨b,off,none⟩)))::k) F own (λk2 F2 own2 rs=>Q k2 F2 own2 (⟨F,own,F,own,[]⟩::rs))):WT C n ops (o::rest) k F own Q:=by
 have I:∀v,((dst,v)::k:ck)=ew n k o.dst v:=λv=>by{rw[p,aC hn]};simp only[I] at h;obtain⟨b,off,ro,cs,l,rfl,h2,h3,h4⟩:=g.el _ _ P;refine WT.still hw (by rw[i];rfl) (λao _=>?_) (h b (off+j.toNat*R.size) ro cs l h2 h3 h4);rw[i];have ar:j.toNat<xs.length:=(No.1 P).1;have hm:=g.len;simp only[aW,hx,hi,jC,bP hT hr hd,bS hT hs];rw[n0 ⟨h0,by omega⟩];rfl
theorem WT.OC(hT:aU C T=true){t:TypeId}{p:Operand}{b off fo m:Nat}{ro:Bool}{cs l:List Value}{v:Value}(r:F b=some (.cells ro cs))(hp:bO cs off m=some l)(j:o.op=.load t p)(hw:aL ops k o=some true){dst:Nat}(g:o.dst=some dst)(I:Nat.blt dst n=true)
  (J:bg C k p=some (.pointer (some ⟨b,off+fo,none⟩))) (P:oK T l t fo=some v)
  (h:WT C n ops rest ((dst,v)::k) F own (λk2 U own2 rs=>Q k2 U own2 (⟨F,own,F,own,[b]⟩::rs))):WT C n ops (o::rest) k F own Q:=by
 have i:∀v,((dst,v)::k:ck)=ew n k o.dst v:=λv=>by{rw[g,aC I]};simp only[i] at h;exact WT.xY j hw J r (Ff hp (aM hT P)) h
theorem bk.slice{a:Option Addr}{m c:Nat}{xs:List α}(g:bk R F a m c xs){lo hi:Nat}(I:lo<=hi)(J:hi<=m)(hT:aU C T=true){t e:Nat}{r:Row}(U:rowOf T t=some r)(hd:r.d=.slice e)(hs:ef T e=some R.size)
  (vlo vhi:Option Value) (h1:di vlo 0=some lo) (h2:di vhi m=some hi) :
  ∃a' c',(∀h,ik C h t (.slice a m c) vlo vhi none=some (.slice a' (hi-lo) c'))/\bk R F a' (hi-lo) c' ((xs.take hi).drop lo):=by
 have hn:=g.len;cases a with| none=>{obtain⟨rfl,rfl⟩:=g.nil rfl;have:hi=0:=by{omega};subst this;have:lo=0:=by{omega};subst this;refine⟨none,0,λh=>?_,?_⟩;{have h3:di none 0=some 0:=rfl;simp only[ik,bP hT U hd,bS hT hs,h1,h2,h3];rfl};{have:xs=[]:=BY (by omega);subst this;exact bk.cK R F}}| some p=>{obtain⟨b,off,sp⟩:=p;have:sp=none:=g.spot _ rfl;subst this;refine⟨some ⟨b,off+lo*R.size,none⟩,c,λh=>?_,?_⟩;{have e1:Nat.ble lo hi=true:=Tj I;have e2:Nat.ble hi m=true:=Tj J;have e3:(c==0||c==R.size)=true:=by{rcases g.cap with rfl | rfl<;>simp};simp only[ik,bP hT U hd,bS hT hs,h1,h2,e1,e2,e3,Uh,xf]};{refine⟨by simp;omega,g.cap,λP=>(by have:=g.zero P;omega),λP=>(by cases P),λp hp=>(by cases hp;rfl),λj x i=>?_⟩;rw[Tu,Tv] at i;split at i;{obtain⟨b',ae,ro,cs,l,g1,g2,g3,g4⟩:=g.el _ _ i;cases g1;refine⟨b,off+lo*R.size,ro,cs,l,rfl,g2,?_,g4⟩;rw[show off+lo*R.size+j*R.size=off+(lo+j)*R.size by rw[TO];omega];exact g3};{cases i}}}
theorem WT.slice{t:TypeId}{p:Operand}{lo hi:Option Operand}{x v:Value}{vlo vhi:Option Value}{l:List Nat}(j:o.op=.slice t p lo hi none)(hw:aL ops k o=some true){dst:Nat}(g:o.dst=some dst)(r:Nat.blt dst n=true)(I:bl (bg C k) o.op=some l)(J:bg C k p=some x)
  (h1:mC (bg C k) lo=some vlo) (P:mC (bg C k) hi=some vhi) (hs:∀h,ik C h t x vlo vhi none=some v)
  (h:WT C n ops rest ((dst,v)::k) F own (λk2 U own2 rs=>Q k2 U own2 (⟨F,own,F,own,l⟩::rs))):WT C n ops (o::rest) k F own Q:=by
 have i:∀v,((dst,v)::k:ck)=ew n k o.dst v:=λv=>by{rw[g,aC r]};simp only[i] at h;refine WT.still hw I (λh0 _=>?_) h;rw[j];have h3:mC (bg C k) none=some none:=rfl;simp only[aW,J,h1,P,h3,hs h0];rfl
theorem WT.wH{f:FuncId}{fn:Func}{as:Array Operand}{ts:Array TypeId}{args:List Value}{oin fr:bA}{de:aA->Value->bA->Prop}(t:C.func f=some fn)(I:fn.body.isSome=true)(j:o.op=.call ⟨.value (.func f),as,ts⟩)
  (hw:aL ops k o=some true) {dst:Nat} (l:o.dst=some dst) (J:Nat.blt dst n=true) (P:dm (bg C k) as.toList=some args) (spec:Spec C f args F oin de) (i:own.Perm (oin++fr))
  (h:∀r v g,aA.le F r->de r v g->WT C n ops rest ((dst,v)::k) r (g++fr) (λk2 U own2 rs=>Q k2 U own2 (⟨F,own,r,g++fr,[]⟩::rs))) :
  WT C n ops (o::rest) k F own Q:=by
 have p:∀v,((dst,v)::k:ck)=ew n k o.dst v:=λv=>by{rw[l,aC J]};simp only[p] at h;refine WT.call hw (by rw[j];rfl) (λh0=>?_) spec i h;rw[j];simp only[aW,bg,P,mf,t,I,xf];simp
end
end Go.Abs
/-
 Slices that grow: a slot of one's own holds what has been appended.
-/
set_option linter.unusedVariables false
namespace Go.Abs
open Go
inductive aG{α:Type}(R:Ty α)(F:aA):List Value->List α->Prop
 | nil:aG R F [] []
 | cons {l cs:List Value} {x:α} {xs:List α}:R.rel F l x->aG R F cs xs->aG R F (l++cs) (x::xs)
section
variable {α:Type}{R:Ty α}{F G:aA}
theorem aG.len{cs:List Value}{xs:List α}(h:aG R F cs xs):cs.length=xs.length*R.size:=by
 induction h with| nil=>{simp}| cons h1 _ g=>{simp[g,R.len _ _ _ h1,TO];omega}
theorem aG.one{cs:List Value}{xs:List α}(h:aG R F cs xs):cs.all Go.Abs.one=true:=by
 induction h with| nil=>{rfl}| cons h1 _ g=>{rw[List.all_append,g,R.one _ _ _ h1];rfl}
theorem aG.mono{cs:List Value}{xs:List α}(h:aG R F cs xs)(g:aA.le F G):aG R G cs xs:=by
 induction h with| nil=>{exact .nil}| cons h1 _ i=>{exact .cons (R.mono _ _ _ _ g h1) i}
theorem aG.append{cs g:List Value}{xs ys:List α}(h:aG R F cs xs)(i:aG R F g ys):aG R F (cs++g) (xs++ys):=by
 induction h with| nil=>{exact i}| cons h1 _ j=>{rw[By];exact .cons h1 j}
theorem aG.single{l:List Value}{x:α}(h:R.rel F l x):aG R F l [x]:=by
 have:=aG.cons h (aG.nil (R:=R) (F:=F));simpa using this
theorem aG.at{cs:List Value}{xs:List α}(h:aG R F cs xs):∀(j:Nat) (x:α),xs[j]?=some x->∃l,bO cs (j*R.size) R.size=some l/\R.rel F l x:=by
 induction h with| nil=>{intro j x h;simp at h}| cons h1 _ p=>{rename_i l cs y ys _;intro j x g;have i:=R.len _ _ _ h1;cases j with| zero=>{simp at g;subst g;refine⟨l,?_,h1⟩;unfold bO;simp only[Wa,Vg];rw[<-i,List.take_left'];{simp};{rfl}}| succ j=>{obtain⟨r,o,t⟩:=p j x (by simpa using g);refine⟨r,?_,t⟩;unfold bO at o ⊢;have:(l++cs).drop ((j+1)*R.size)=cs.drop (j*R.size):=by{rw[show (j+1)*R.size=l.length+j*R.size by rw[i,TO];omega,<-Vw,List.drop_left]};rw[this];exact o}}
structure cb(R:Ty α)(F:aA)(a:Option Addr)(n c:Nat)(B:List (Nat×aJ))(xs:List α):Prop where
 len:n=xs.length
 at_:(xs=[]/\a=none/\c=0/\B=[])\/∃i cs,a=some ⟨i,0,none⟩/\c=R.size/\B=[(i,.cells false cs)]/\aG R F cs xs/\0<R.size
theorem cb.cK(R:Ty α)(F:aA):cb R F none 0 0 [] ([]:List α):=⟨rfl,.inl ⟨rfl,rfl,rfl,rfl⟩⟩
theorem cb.mono{a:Option Addr}{n c:Nat}{B:List (Nat×aJ)}{xs:List α}(h:cb R F a n c B xs)(g:aA.le F G):cb R G a n c B xs:=
 ⟨h.len,h.at_.imp id λ⟨i,cs,h1,j,l,o,p⟩=>⟨i,cs,h1,j,l,o.mono g,p⟩⟩
theorem cb.arr{a:Option Addr}{n c:Nat}{B:List (Nat×aJ)}{xs:List α}(h:cb R F a n c B xs)(o:aA.le F G)(r:∀i b,(i,b)∈B->G i=some b):bk R G a n c xs:=by
 rcases h.at_ with ⟨rfl,rfl,rfl,rfl⟩ | ⟨i,cs,rfl,rfl,rfl,t,P⟩;{have:=h.len;simp at this;subst this;exact bk.cK R G};{refine⟨h.len,.inr rfl,λg=>by omega,λg=>(by cases g),λp hp=>(by cases hp;rfl),λj x C=>?_⟩;obtain⟨l,I,J⟩:=(t.mono o).at j x C;exact⟨i,0,false,cs,l,rfl,r i _ (D2 ..),by rw[AI];exact I,J⟩}
end
section
variable {C:Ctx}{T:RT}{n:Nat}{k:ck}{F:aA}{own:bA}{ops rest:List Oper}{o:Oper}{Q:ck->aA->bA->List Rec->Prop}{α:Type}{R:Ty α}
def nF(T:RT)(t:Nat):Option Nat:=match rowOf T t with | some r=>some r.bytes | none=>none
theorem fV(hT:aU C T=true){t m:Nat}(q:nF T t=some m):C.bytes t=some m:=by
 unfold nF at q;split at q;{rename_i r g;cases q;exact(dL hT g).2.2.1};{cases q}
theorem WT.append(hT:aU C T=true)(p:Nat){B:List (Nat×aJ)}{a:Option Addr}{m c d by_:Nat}{xs ys:List α}{J:List Value}{t e:Nat}{ts:List TypeId}{r:Row}{z x:Value}{xo so:Operand}
  (hb:cb R F a m c B xs) (hp:own[p]?=some B) (aa:o.op=.call ⟨.builtin .append,⟨[so,xo]⟩,⟨t::ts⟩⟩) (hw:aL ops k o=some true) {dst:Nat} (ad:o.dst=some dst) (hn:Nat.blt dst n=true)
  (hs:bg C k so=some (.slice a m c)) (hx:bg C k xo=some x) (hr:rowOf T t=some r) (hd:r.d=.slice e) (ae:ef T e=some R.size) (hz:gL T e=some z) (af:nF T e=some by_)
  (U:∀h,St F own h->kD C h e R.size ts.head? x=some (d,J)) (P:aG R F J ys) (hlen:d=ys.length) (l:0<d/\0<R.size/\0<by_) (ab:(m+d)*by_<=140737488355328)
  (h:∀a' c' B',cb R F a' (m+d) c' B' (xs++ys)->WT C n ops rest ((dst,(.slice a' (m+d) c'))::k) F (own.set p B') (λk2 F2 own2 rs=>Q k2 F2 own2 (⟨F,own,F,own.set p B',[]⟩::rs))) :
  WT C n ops (o::rest) k F own Q:=by
 have ag:∀v,((dst,v)::k:ck)=ew n k o.dst v:=λv=>by{rw[ad,aC hn]};simp only[ag] at h;have hl:bl (bg C k) o.op=some []:=by{rw[aa];rfl};have hv:dm (bg C k) [so,xo]=some [.slice a m c,x]:=by{simp[dm,hs,hx]};have I:∀ln,ln=m->(!(J.length==d*R.size&&J.all one&&Nat.blt 0 R.size&&Nat.blt 0 by_&&Nat.ble ((ln+d)*by_) 140737488355328))=false:=by{intro ln ay;subst ay;have h1:(J.length==d*R.size)=true:=by{rw[P.len,hlen];simp};have h2:Nat.blt 0 R.size=true:=Tj l.2.1;have h3:Nat.blt 0 by_=true:=Tj l.2.2;have h4:Nat.ble ((ln+d)*by_) 140737488355328=true:=Tj ab;rw[h1,h2,h3,h4,P.one];rfl};have al:(d==0)=false:=by{have:=l.1;cases d with | zero=>omega | succ d=>rfl};have g:=hb.len;rcases hb.at_ with ⟨rfl,rfl,rfl,rfl⟩ | ⟨i,cs,rfl,rfl,rfl,h4,h5⟩;{simp at g;subst g;refine WT.fill (mk:=λi=>.slice (some ⟨i,0,none⟩) (0+d) R.size) (b:=.cells false J) p hp hw hl (λh0 s0=>?_) (λi hi=>h _ _ _ ⟨by simp;exact hlen,.inr ⟨i,J,rfl,rfl,rfl,by simpa using P,l.2.1⟩⟩);rw[aa];simp only[aW,hv,bR,gg,bP hT hr hd,bS hT ae,cZ hT hz,fV hT af,U h0 s0,I 0 rfl,al,zm];simp};{refine WT.move (mk:=λi=>.slice (some ⟨i,0,none⟩) (m+d) R.size) (b:=.cells false cs) (b':=.cells false (cs++J)) p hp hw hl (λh0 s0 hg=>?_) (λj hj=>h _ _ _ ⟨by simp;omega,.inr ⟨j,cs++J,rfl,rfl,rfl,h4.append P,h5⟩⟩);rw[aa];have a2:(R.size==0)=false:=by{simp;omega};have a3:(!(R.size==R.size))=false:=by{simp};have ac:bO cs 0 (m*R.size)=some cs:=by{unfold bO;have:cs.length=m*R.size:=by{rw[h4.len,g]};simp[<-this]};simp only[aW,hv,bR,gg,bP hT hr hd,bS hT ae,cZ hT hz,fV hT af,U h0 s0,I m rfl,al,zm,a2,a3,hg,ac];rfl}
theorem WT.buildSlice(hT:aU C T=true){t e len g:Nat}{ps:Array (Nat×Operand)}{vs:List (Nat×Value)}{r:Row}{z:Value}{cs:List Value}(l:o.op=.buildSlice t len ps)(hw:aL ops k o=some true){dst:Nat}(p:o.dst=some dst)(hn:Nat.blt dst n=true)
  (J:fC (bg C k) ps.toList=some vs) (hr:rowOf T t=some r) (hd:r.d=.slice e) (P:ef T e=some g) (hz:gL T e=some z) (U:(Nat.ble (len*g) 16777216&&Nat.blt 0 g)=true)
  (j:mO (λi=>some (i*g,g)) (dH z.cells.toList len) vs=some cs)
  (h:∀i,F i=none->WT C n ops rest ((dst,(.slice (some ⟨i,0,none⟩) len (bif len==0 then 0 else g)))::k) F ([(i,.cells false cs)]::own) (λk2 F2 own2 rs=>Q k2 F2 own2 (⟨F,own,F,[(i,.cells false cs)]::own,[]⟩::rs))) :
  WT C n ops (o::rest) k F own Q:=by
 have I:∀v,((dst,v)::k:ck)=ew n k o.dst v:=λv=>by{rw[p,aC hn]};simp only[I] at h;refine WT.new (mk:=λi=>.slice (some ⟨i,0,none⟩) len (bif len==0 then 0 else g)) hw (by rw[l];rfl) (λh0 _=>?_) h;rw[l];simp only[aW,J,iI,bP hT hr hd,bS hT P,cZ hT hz,U,xf,j];rfl
theorem aN(hT:aU C T=true){h:au}(s:St F own h)(q:Nat){i:Nat}{ro:Bool}{cs:List Value}{e j len c t J:Nat}{r:Row}(P:own[q]?=some [(i,.cells ro cs)])(l:rowOf T t=some r)(p:r.d=.slice J)
  (U:cs.length=len*j):kD C h e j (some t) (.slice (some ⟨i,0,none⟩) len c)=some (len,cs):=by
 have hb:h.get i=some (.cells ro cs):=s.has P (D2 ..);have g:bO cs 0 (len*j)=some cs:=by{unfold bO;simp[<-U]};by_cases I:len=0;{subst I;have:cs=[]:=BY (by omega);subst this;simp[kD,bP hT l p,fG,kj,jf]};{simp only[kD,bP hT l p,fG,kj,jf,kO,hb,g,show (len==0)=false by simpa using I];rfl}
theorem jd.DO{d:Nat}{v:Value}(i:lk k d=some v):jd ((d,v)::k) k:=by
 intro j u q;simp only[lk] at q;cases g:Nat.beq d j with| true=>{rw[g] at q;have:=Mr g;subst this;cases q;exact i}| false=>{rw[g] at q;exact q}
theorem WT.split(d:Nat){v:Bool}(g:lk k d=some (.bool v))(h1:v=true->WT C n ops rest ((d,.bool true)::k) F own Q)(i:v=false->WT C n ops rest ((d,.bool false)::k) F own Q):WT C n ops rest k F own Q:=by
 cases v with| true=>{exact WT.weaken (jd.DO g) (h1 rfl)}| false=>{exact WT.weaken (jd.DO g) (i rfl)}
end
end Go.Abs
/-
 Loops: what changes in a round;loops over a range.
-/
set_option linter.unusedVariables false
namespace Go.Abs
open Go
theorem Lo:∀(k:ck) (i:Nat) (v:Value),lk k i=some v->i∈k.map (·.1)
 | [],_,_,q=>by cases q
 | (j,u)::k,i,v,q=>by{simp only[lk] at q;cases g:Nat.beq j i with| true=>{rw[Mr g];simp}| false=>{rw[g] at q;exact mb _ (Lo k i v q)}}
theorem jd.of_map{k2 k:ck}(h:(k2.map (·.1)).map (lk k)=(k2.map (·.1)).map (lk k2)):jd k2 k:=by
 intro i v q;have hm:=Lo k2 i v q;have:∀(l:List Nat),l.map (lk k)=l.map (lk k2)->∀i∈l,lk k i=lk k2 i:=by{intro l;induction l with| nil=>{intro _ i hi;cases hi}| cons a l g=>{intro he i hi;simp only[y2,T1] at he;rcases PJ.1 hi with rfl | hi;{exact he.1};{exact g he.2 i hi}}};rw[this _ h i hm,q]
theorem jd.refl(k:ck):jd k k:=λ_ _ q=>q
def ah(own2 own:bA):Prop:=∃l:List (Nat×aJ),l.Sublist own.flatten/\l.Perm own2.flatten
theorem ah.refl(own:bA):ah own own:=⟨_,Tm _,sh _⟩
theorem ah.sub{own2 own:bA}(h:own2.Sublist own):ah own2 own:=⟨_,wV h,sh _⟩
theorem ah.perm{own2 own:bA}(h:own.Perm own2):ah own2 own:=⟨_,Tm _,Vt h⟩
theorem ah.flat{own2 own:bA}(h:own.flatten.Perm own2.flatten):ah own2 own:=⟨_,Tm _,h⟩
theorem D5{α:Type}{l m p:List α}(h:l.Sublist m)(hp:m.Perm p):∃g,g.Sublist p/\l.Perm g:=by
 induction hp generalizing l with| nil=>{exact⟨l,h,sh _⟩}| cons a _ r=>{cases h with| cons _ h=>{obtain⟨g,h1,i⟩:=r h;exact⟨g,h1.cons a,i⟩}| cons_cons _ h=>{obtain⟨g,h1,i⟩:=r h;exact⟨a::g,h1.cons_cons a,i.cons a⟩}}| swap a b m=>{cases h with| cons _ h=>{cases h with| cons _ h=>{exact⟨l,(h.cons b).cons a,sh _⟩}| cons_cons _ h=>{exact⟨_,(h.cons b).cons_cons a,sh _⟩}}| cons_cons _ h=>{cases h with| cons _ h=>{exact⟨_,(h.cons_cons b).cons a,sh _⟩}| cons_cons _ h=>{exact⟨_,(h.cons_cons b).cons_cons a,List.Perm.swap ..⟩}}}| trans _ _ j o=>{obtain⟨J,h1,i⟩:=j h;obtain⟨t,C,I⟩:=o h1;exact⟨t,C,i.trans I⟩}
theorem ah.trans{a b c:bA}(h1:ah a b)(g:ah b c):ah a c:=by
 obtain⟨l,i,j⟩:=h1;obtain⟨m,o,p⟩:=g;obtain⟨r,t,C⟩:=D5 i p.symm;exact⟨r,t.trans o,C.symm.trans j⟩
theorem ah.cons{a b:bA}(B:List (Nat×aJ))(h:ah a b):ah (B::a) (B::b):=by
 obtain⟨l,h1,g⟩:=h;exact⟨B++l,by simp only[TF];exact(Tm B).append h1,by simp only[TF];exact g.append_left B⟩
theorem ah.skip{a b:bA}(B:List (Nat×aJ))(h:ah a b):ah a (B::b):=h.trans (ah.sub (UE ..))
theorem St.le{F:aA}{own own2:bA}{h:au}(s:St F own h)(g:ah own2 own):St F own2 h:=by
 obtain⟨l,h1,i⟩:=g;exact kM.perm (kM.sub s h1) i
theorem St.nZ{F G:aA}{own:bA}{h:au}(s:St G own h)(g:aA.le F G):St F own h:=
 ⟨λi b q=>s.Bl i b (g i b q),λp hp=>kM.has s p hp,λp hp=>(by{have:=kM.apart s p hp;cases j:F p.1 with| none=>{rfl}| some b=>{rw[g _ _ j] at this;cases this}}),kM.nodup s,s.wf⟩
section
variable {C:Ctx}{n:Nat}{k:ck}{F:aA}{own:bA}{A:Ex->ck->aA->bA->Prop}
theorem AW.le{c:Code}{own2:bA}(i:ah own2 own)(h:AW C n c k F own2 A):AW C n c k F own A:=λe j g hs=>h e j g (hs.le i)
theorem WT.le{ops rest:List Oper}{Q:ck->aA->bA->List Rec->Prop}{own2:bA}(i:ah own2 own)(h:WT C n ops rest k F own2 Q):WT C n ops rest k F own Q:=λe j g hs=>h e j g (hs.le i)
theorem AW.ek{S:Type}(g:S->ck)(l:S->bA)(P:S->aA->Prop)(m:S->Nat){c:Code}(o:S)
  (hk:jd (g o++k) k) (ho:ah (l o) own) (hP:P o F)
  (step:∀s j,aA.le F j->P s j->AW C n c (g s++k) j (l s) (xj (λk' ac aY=>∃s',m s'<m s/\jd (g s'++k) k'/\ah (l s') aY/\P s' ac) A)) :
  AW C n (.loop c) k F own A:=by
 have main:AW C n (.loop c) (g o++k) F (l o) A:=by{refine AW.loop (λs k' j aY=>k'=g s++k/\aY=l s/\aA.le F j/\P s j) m ?_ o _ _ _ ⟨rfl,rfl,aA.le.refl F,hP⟩;rintro s _ j _ ⟨rfl,rfl,hF,hp⟩;intro e h0 ad ae;obtain⟨x,r,h1,t,I,i,J,R,p,U,h6⟩:=step s j hF hp e h0 ad ae;cases x with| normal=>{obtain⟨s',q1,q2,q3,q4⟩:=h6;exact⟨.normal,r,h1,t,I,l s',J,R,p,U.le q3,s',g s'++k,l s',q1,q2,Tm _,rfl,rfl,hF.trans p,q4⟩}| exit id=>{exact⟨.exit id,r,h1,t,I,i,J,R,p,U,h6⟩}| ret=>{exact⟨.ret,r,h1,t,I,i,J,R,p,U,h6⟩}| jN=>{exact⟨.jN,r,h1,t,I,i,J,R,p,U,h6⟩}};exact AW.weaken hk (AW.le ho main)
def L8{S:Type}(o:Nat)(r j:Nat)(p:S->ck)(k:ck)(t:S->bA)(P:Nat->S->aA->Prop)(A:Ex->ck->aA->bA->Prop):Ex->ck->aA->bA->Prop
 | .normal,g,l,aY=>∃s',jd ((r,.int .i64 j)::(p s'++k)) g/\ah (t s') aY/\P (j+1) s' l
 | .exit i,g,l,aY=>A (bif i==o then .normal else .exit i) g l aY
 | .ret,g,l,aY=>A .ret g l aY
 | .jN,g,l,aY=>A .jN g l aY
theorem AW.range{S:Type}(o:S->ck)(ow:S->bA)(P:Nat->S->aA->Prop)(m:Nat)(s0:S)
  {r I r1 r2 g tl tc R t1 t2 t3 t4:Nat} {body:Code} {o1 o2 o3:Oper}
  (av:o1.op=.binOp .lss t1 (.tmp g) (.tmp tl) t2) (a7:o1.dst=some tc) (a8:o1.guard=none)
  (a9:o2.op=.binOp .add t3 (.tmp g) (.const (.int .i64 1)) t4) (ba:o2.dst=some R) (bb:o2.guard=none)
  (ax:o3.op=.move (.tmp R)) (bc:o3.dst=some g) (bd:o3.guard=none)
  (hm:m<=9223372036854775807) (hn:(Nat.blt g n&&Nat.blt tc n&&Nat.blt R n)=true)
  (ay:(Nat.beq g R||Nat.beq tc g||Nat.beq tl g)=false)
  (hl:∀s,lk (o s++k) tl=some (.int .i64 m)) (hj:∀s,lk (o s++k) R=none)
  (hk:jd ((g,.int .i64 0)::(o s0++k)) k) (ho:ah (ow s0) own) (hP:P 0 s0 F)
  (step:∀j s t,aA.le F t->j<m->P j s t->AW C n body ((tc,.bool true)::(g,.int .i64 j)::(o s++k)) t (ow s) (vk I (L8 r g j o k ow P A)))
  (done:∀s t,aA.le F t->P m s t->A .normal ((tc,.bool false)::(g,.int .i64 m)::(o s++k)) t (ow s)) :
  AW C n (.block r (.loop (.seq (.region r1 ⟨[o1]⟩ false) (.seq (.cond (.tmp tc) .skip (.exit r)) (.seq (.block I body) (.region r2 ⟨[o2,o3]⟩ false)))))) k F own A:=by
 simp only[tx] at hn;simp only[Bool.or_eq_false_iff] at ay;obtain⟨⟨bf,bi⟩,bn⟩:=hn;obtain⟨⟨b0,b1⟩,ac⟩:=ay;have a0:∀k v,ew n k (some g) v=(g,v)::k:=λk v=>by{simp only[ew,bf,xf]};have a1:∀k v,ew n k (some tc) v=(tc,v)::k:=λk v=>by{simp only[ew,bi,xf]};have a2:∀k v,ew n k (some R) v=(R,v)::k:=λk v=>by{simp only[ew,bn,xf]};have U:Nat.beq g g=true:=UX g;have a3:Nat.beq tc tc=true:=UX tc;have a4:Nat.beq R R=true:=UX R;have aa:Nat.beq g tl=false:=by{cases h:Nat.beq g tl with| false=>{rfl}| true=>{rw[Mr h,UX] at ac;cases ac}};refine AW.block ?_;let st:Nat×S->ck:=λp=>(g,.int .i64 p.1)::(o p.2++k);have main:AW C n (.loop (.seq (.region r1 ⟨[o1]⟩ false) (.seq (.cond (.tmp tc) .skip (.exit r)) (.seq (.block I body) (.region r2 ⟨[o2,o3]⟩ false))))) ((g,.int .i64 0)::(o s0++k)) F (ow s0) (vk r A):=by{refine AW.loop (λ(p:Nat×S) k' t aY=>k'=st p/\aY=ow p.2/\aA.le F t/\p.1<=m/\P p.1 p.2 t) (λp=>m-p.1) ?_ (0,s0) _ _ _ ⟨rfl,rfl,aA.le.refl F,If _,hP⟩;rintro⟨j,s⟩ _ t _ ⟨rfl,rfl,hF,br,hp⟩;simp only at br hp;refine AW.seq (AW.fp ?_);refine WT.still (v:=.bool (decide ((j:Int)<m))) (l:=[]) (by simp only[aL,a8]) ?_ (λh0 _=>?_) ?_;{rw[av];simp only[bl,bg,st,lk,U,xf,aa,zm,hl];rfl};{rw[av];simp only[aW,bg,st,lk,U,xf,aa,zm,hl,mw,TY,fF];rfl};refine WT.nil ?_;show AW C n _ _ _ _ _;rw[a7,a1];refine AW.seq (AW.cond (v:=decide ((j:Int)<m)) (by simp only[bg,lk,a3,xf]) (λhc=>?_) (λhc=>?_));{have hc:j<m:=by{have:=Ue hc;omega};refine AW.skip ?_;show AW C n _ _ _ _ _;refine AW.seq (AW.block ?_);have hd:decide ((j:Int)<m)=true:=by{simp;omega};rw[hd];refine AW.mono (step j s t hF hc hp) ?_;intro x k' a5 aY a6 hx;have fin:L8 r g j o k ow P A .normal k' a5 aY->AW C n (.region r2 ⟨[o2,o3]⟩ false) k' a5 aY (xj (λk' t aY=>∃(J:Nat×S),∃k2 own2,m-J.1<m-j/\jd k2 k'/\own2.Sublist aY/\k2=st J/\own2=ow J.2/\aA.le F t/\J.1<=m/\P J.1 J.2 t) (vk r A)):=by{rintro⟨s',q1,q2,q3⟩;refine AW.weaken q1 (AW.le q2 (AW.fp ?_));refine WT.add (x:=j) (y:=1) a9 (by simp only[aL,bb]) (by simp only[bg,lk,U,xf]) (by simp only[bg,plain,xf]) (by omega) ?_;rw[ba,a2];refine WT.still (v:=.int .i64 (j+1)) (l:=[]) (by simp only[aL,bd]) ?_ (λh0 _=>?_) ?_;{rw[ax];rfl};{rw[ax];simp only[aW,bg,lk,a4,xf];rfl};rw[bc,a0];refine WT.nil ⟨(j+1,s'),st (j+1,s'),ow s',by simp only;omega,?_,Tm _,rfl,rfl,hF.trans a6,by simp only;omega,q3⟩;intro i v q;simp only[st,lk] at q ⊢;cases hb:Nat.beq g i with| true=>{rw[hb] at q;simpa using q}| false=>{rw[hb] at q;simp only[zm] at q ⊢;cases bt:Nat.beq R i with| true=>{have:=Mr bt;subst this;rw[hj] at q;cases q}| false=>{exact q}}};cases x with| normal=>{exact fin hx}| ret=>{exact hx}| jN=>{exact hx}| exit i=>{simp only[vk] at hx ⊢;cases hi:(i==I) with| true=>{rw[hi] at hx;exact fin hx}| false=>{rw[hi] at hx;exact hx}}};{have hc:j=m:=by{have:=of_decide_eq_false hc;omega};subst hc;have hd:decide ((j:Int)<j)=false:=by{simp};rw[hd];refine AW.exit ?_;simp only[xj,vk];have:(r==r)=true:=by{simp};rw[this];exact done s t hF hp}};exact AW.weaken hk (AW.le ho main)
end
end Go.Abs
/-
 More rules: elements by their place,equality of structs,bits.
-/
set_option linter.unusedVariables false
namespace Go.Abs
open Go
def mX(T:RT)(eq:TypeId->Value->Value->Option Bool):List (Nat×Nat)->List Value->List Value->Option Bool
 | [],_,_=>some true
 | (off,g)::i,xs,ys=>
  match oK T xs g off,oK T ys g off with
  | some a,some b=>match eq g a b,mX T eq i xs ys with
   | some p,some q=>some (p&&q)
   | _,_=>none
  | _,_=>none
def Ng(C:Ctx)(T:RT):Nat->TypeId->Value->Value->Option Bool
 | 0,_,_,_=>none
 | n+1,t,x,y=>
  match rowOf T t with
  | some r=>match r.d,x,y with
   | .struct g,.agg ⟨xs⟩,.agg ⟨ys⟩=>bif C.flat t then mX T (Ng C T n) g xs ys else none
   | .int _,.int k a,.int i b=>if k=i then some (a==b) else none
   | .string,.string a,.string b=>some (a==b)
   | .bool,.bool a,.bool b=>some (a==b)
   | _,_,_=>none
  | none=>none
section
variable {C:Ctx}{T:RT}(hT:aU C T=true)
include hT
theorem nP{g i:TypeId->Value->Value->Option Bool}(he:∀t x y b,g t x y=some b->i t x y=some b):∀(j:List Field) (xs ys:List Value) (b:Bool),
  mX T g (j.map λf=>(f.offset,f.type)) xs ys=some b->eqFields C i j xs ys=some b
 | [],xs,ys,b,q=>q
 | f::j,xs,ys,b,q=>by{simp only[y2,mX] at q;split at q;{rename_i u v hu l;split at q;{rename_i p r hp o;cases q;unfold eqFields;rw[aM hT hu,aM hT l];simp only[he _ _ _ _ hp];cases p with| true=>{simpa using nP he j xs ys r o}| false=>{rfl}};{cases q}};{cases q}}
theorem nY{t:Nat}{r:Row}(q:rowOf T t=some r)(i:r.d=.string):C.iL t=some .string:=by
 (obtain⟨_,_,_,_,d,j,g⟩:=dL hT q;rw[i] at g;cases d<;>first | (cases g;done) | skip);rw[j]
theorem uA{t:Nat}{r:Row}(q:rowOf T t=some r)(i:r.d=.bool):C.iL t=some .bool:=by
 (obtain⟨_,_,_,_,d,j,g⟩:=dL hT q;rw[i] at g;cases d<;>first | (cases g;done) | skip);rw[j]
theorem Dz:∀(n:Nat) (t:TypeId) (x y:Value) (b:Bool),Ng C T n t x y=some b->rD C n t x y=some b
 | 0,_,_,_,_,q=>by cases q
 | n+1,t,x,y,b,q=>by{unfold Ng at q;split at q;{rename_i r i;split at q;{rename_i p xs ys g;obtain⟨o,hu,j⟩:=gw hT i g;cases l:C.flat t with| false=>{rw[l] at q;cases q}| true=>{rw[l] at q;simp only[xf] at q;unfold rD;simp only[hu,l,xf];rw[j] at q;exact nP hT (Dz n) _ _ _ _ q}};{rename_i I k a J b' g;have hu:=uN hT i g;unfold rD;simp only[hu,fL];exact q};{rename_i a b' g;have hu:=nY hT i g;unfold rD;simp only[hu,fL];rw[<-q]};{rename_i a b' g;have hu:=uA hT i g;unfold rD;simp only[hu,fL];rw[<-q]};{cases q}};{cases q}}
theorem BR{h:au}{t:TypeId}{xs ys:List Value}{b:Bool}(q:Ng C T 8 t (.agg ⟨xs⟩) (.agg ⟨ys⟩)=some b):equalA C h t (.agg ⟨xs⟩) (.agg ⟨ys⟩)=some b:=by
 have h1:=Dz hT 8 t _ _ b q;unfold Ng at q;split at q;{rename_i r j;split at q;{rename_i I _ _ l _ _;obtain⟨o,hu,p⟩:=gw hT j l;unfold equalA;rw[hu];exact h1};{rename_i g i;cases g};{rename_i g i;cases g};{rename_i g i;cases g};{cases q}};{cases q}
omit hT in
theorem xv{t:TypeId}{xs ys:List Value}{b:Bool}(q:Ng C T 8 t (.agg ⟨xs⟩) (.agg ⟨ys⟩)=some b):C.flat t=true:=by
 unfold Ng at q;split at q;{split at q;{cases j:C.flat t with| false=>{rw[j] at q;cases q}| true=>{rfl}};{rename_i g i;cases g};{rename_i g i;cases g};{rename_i g i;cases g};{cases q}};{cases q}
end
section
variable {C:Ctx}{T:RT}{n:Nat}{k:ck}{F:aA}{own:bA}{ops rest:List Oper}{o:Oper}{Q:ck->aA->bA->List Rec->Prop}{α:Type}{R:Ty α}
theorem WT.SG(hT:aU C T=true){t ty:TypeId}{l p:Operand}{xs ys:List Value}{b:Bool}(g:o.op=.binOp .eql t l p ty)(hw:aL ops k o=some true){dst:Nat}(i:o.dst=some dst)(J:Nat.blt dst n=true)
  (r:bg C k l=some (.agg ⟨xs⟩)) (I:bg C k p=some (.agg ⟨ys⟩)) (he:Ng C T 8 t (.agg ⟨xs⟩) (.agg ⟨ys⟩)=some b)
  (h:WT C n ops rest ((dst,(.bool b))::k) F own (λk2 P own2 rs=>Q k2 P own2 (⟨F,own,F,own,[]⟩::rs))):WT C n ops (o::rest) k F own Q:=by
 have j:∀v,((dst,v)::k:ck)=ew n k o.dst v:=λv=>by{rw[i,aC J]};simp only[j] at h;refine WT.still hw (by rw[g];simp only[bl,r,I];rfl) (λU _=>?_) h;rw[g];simp only[aW,r,I,mw,jH,xv he,BR hT he,xf,Tq]
theorem WT.SE(hT:aU C T=true){t ty:TypeId}{l p:Operand}{xs ys:List Value}{b:Bool}(g:o.op=.binOp .neq t l p ty)(hw:aL ops k o=some true){dst:Nat}(i:o.dst=some dst)(J:Nat.blt dst n=true)
  (r:bg C k l=some (.agg ⟨xs⟩)) (I:bg C k p=some (.agg ⟨ys⟩)) (he:Ng C T 8 t (.agg ⟨xs⟩) (.agg ⟨ys⟩)=some b)
  (h:WT C n ops rest ((dst,(.bool !b))::k) F own (λk2 P own2 rs=>Q k2 P own2 (⟨F,own,F,own,[]⟩::rs))):WT C n ops (o::rest) k F own Q:=by
 have j:∀v,((dst,v)::k:ck)=ew n k o.dst v:=λv=>by{rw[i,aC J]};simp only[j] at h;refine WT.still hw (by rw[g];simp only[bl,r,I];rfl) (λU _=>?_) h;rw[g];simp only[aW,r,I,mw,jH,xv he,BR hT he,xf,Tq]
theorem WT.bh(hT:aU C T=true){t e:Nat}{r:Row}{I io:Operand}{a:Option Addr}{m c:Nat}{xs:List α}{P:IntKind}{j:Nat}(i:bk R F a m c xs)(p:o.op=.indexAddr t I io)(hw:aL ops k o=some true){dst:Nat}(g:o.dst=some dst)(U:Nat.blt dst n=true)
  (hx:bg C k I=some (.slice a m c)) (hi:bg C k io=some (.int P (j:Nat))) (hr:rowOf T t=some r) (hd:r.d=.slice e) (hs:ef T e=some R.size) (J:j<xs.length)
  (h:∀x,xs[j]?=some x->∀b off ro cs l,F b=some (.cells ro cs)->bO cs off R.size=some l->R.rel F l x->
   WT C n ops rest ((dst,(.pointer (some ⟨b,off,none⟩)))::k) F own (λk2 F2 own2 rs=>Q k2 F2 own2 (⟨F,own,F,own,[]⟩::rs))):WT C n ops (o::rest) k F own Q:=
 WT.idx hT (x:=xs[j]) (j:=(j:Int)) i p hw g U hx hi hr hd hs (U6 j) (by simp[J]) (h _ (To J))
theorem WT.OD{t ty:TypeId}{j l:Operand}{x y:Int}(i:o.op=.binOp .mul t j l ty)(hw:aL ops k o=some true){dst:Nat}(g:o.dst=some dst)(p:Nat.blt dst n=true)(r:bg C k j=some (.int .i64 x))(I:bg C k l=some (.int .i64 y))
  (J:-9223372036854775808<=x*y/\x*y<=9223372036854775807)
  (h:WT C n ops rest ((dst,.int .i64 (x*y))::k) F own (λk2 P own2 rs=>Q k2 P own2 (⟨F,own,F,own,[]⟩::rs))):WT C n ops (o::rest) k F own Q:=
 WT.mul i hw r I J (by rw[g,aC p];exact h)
theorem WT.Rh{t ty:TypeId}{j l:Operand}{x y:Int}(i:o.op=.binOp .rem t j l ty)(hw:aL ops k o=some true){dst:Nat}(g:o.dst=some dst)(p:Nat.blt dst n=true)(r:bg C k j=some (.int .i64 x))(I:bg C k l=some (.int .i64 y))
  (J:y≠0)
  (h:WT C n ops rest ((dst,.int .i64 (x.tmod y))::k) F own (λk2 P own2 rs=>Q k2 P own2 (⟨F,own,F,own,[]⟩::rs))):WT C n ops (o::rest) k F own Q:=
 WT.rem i hw r I J (by rw[g,aC p];exact h)
theorem WT.Rk{t ty:TypeId}{j l:Operand}{x y:Int}(i:o.op=.binOp .quo t j l ty)(hw:aL ops k o=some true){dst:Nat}(g:o.dst=some dst)(p:Nat.blt dst n=true)(r:bg C k j=some (.int .i64 x))(I:bg C k l=some (.int .i64 y))
  (J:y≠0/\-9223372036854775808<=x.tdiv y/\x.tdiv y<=9223372036854775807)
  (h:WT C n ops rest ((dst,.int .i64 (x.tdiv y))::k) F own (λk2 P own2 rs=>Q k2 P own2 (⟨F,own,F,own,[]⟩::rs))):WT C n ops (o::rest) k F own Q:=
 WT.quo i hw r I J (by rw[g,aC p];exact h)
theorem tP{x:Int}(h:0<=x/\x<4294967296):IntKind.u32.wrap x=x:=by
 have hs:IntKind.u32.signed=false:=rfl;have g:IntKind.u32.bits=32:=rfl;simp only[IntKind.wrap,hs,g,Bool.false_and];have:(2:Int) ^ 32=4294967296:=rfl;rw[this];simp;omega
theorem Jo{x:Nat}(h:x<4294967296):(BitVec.ofInt 32 (x:Int)).toNat=x:=by
 simp;omega
theorem AF{x y:Nat}(g:x<4294967296)(i:y<4294967296):IntKind.u32.wrap ((BitVec.ofInt IntKind.u32.bits (x:Int) ||| BitVec.ofInt IntKind.u32.bits (y:Int)).toNat:Int)=((x ||| y:Nat):Int):=by
 have j:IntKind.u32.bits=32:=rfl;have l:x ||| y<4294967296:=UN (n:=32) g i;rw[j,BitVec.toNat_or,Jo g,Jo i,tP (by omega)]
theorem oI{x y:Nat}(i:x<4294967296)(g:y<4294967296):IntKind.u32.wrap ((BitVec.ofInt IntKind.u32.bits (x:Int) &&& BitVec.ofInt IntKind.u32.bits (y:Int)).toNat:Int)=((x &&& y:Nat):Int):=by
 have j:IntKind.u32.bits=32:=rfl;have l:x &&& y<4294967296:=Nat.and_lt_two_pow (n:=32) x g;rw[j,BitVec.toNat_and,Jo i,Jo g,tP (by omega)]
def andNot(x y:Nat):Nat:=x &&& (4294967295-y)
theorem pX{x y:Nat}(g:x<4294967296)(i:y<4294967296):IntKind.u32.wrap ((BitVec.ofInt IntKind.u32.bits (x:Int) &&& ~~~BitVec.ofInt IntKind.u32.bits (y:Int)).toNat:Int)=((andNot x y:Nat):Int):=by
 have j:IntKind.u32.bits=32:=rfl;have h1:(~~~BitVec.ofInt 32 (y:Int)).toNat=4294967295-y:=by{rw[BitVec.toNat_not,Jo i]};have l:andNot x y<4294967296:=by{unfold andNot;exact Nat.and_lt_two_pow (n:=32) x (by omega)};rw[j,BitVec.toNat_and,h1,Jo g];exact tP (by unfold andNot at l;omega)
theorem pG{x y:Nat}(g:x<4294967296)(i:y<4294967296)(j:Nat):(andNot x y).testBit j=(x.testBit j&&!y.testBit j):=by
 unfold andNot;have l:(4294967295-y).testBit j=(decide (j<32)&&!y.testBit j):=by{have:=Nat.testBit_two_pow_sub_succ (n:=32) (x:=y) i j;rw[<-this];congr 1;omega};rw[Wc,l];rcases IN j 32 with h | h;{simp[h]};{have:x.testBit j=false:=UD (Ti g (Tt (by decide) h:2 ^ 32<=2 ^ j));simp[this]}
theorem jX{x y:Nat}(i:x<4294967296)(l:y<4294967296):andNot x y=0↔∀j,x.testBit j=true->y.testBit j=true:=by
 constructor;{intro h j g;have:=pG i l j;rw[h,g] at this;simpa using this.symm};{intro h;apply UY;intro j;rw[pG i l];cases g:x.testBit j with| false=>{simp}| true=>{simp[h j g]}}
theorem WT.KT{op:BinOp}{t ty:TypeId}{p I:Operand}{x y r:Nat}(l:o.op=.binOp op t p I ty)(hw:aL ops k o=some true){dst:Nat}(i:o.dst=some dst)(J:Nat.blt dst n=true)(P:bg C k p=some (.int .u32 x))(U:bg C k I=some (.int .u32 y))
  (hr:fF op .u32 x y=some (.int .u32 (r:Nat))) (g:op≠.shl/\op≠.shr)
  (h:WT C n ops rest ((dst,(.int .u32 (r:Nat)))::k) F own (λk2 F2 own2 rs=>Q k2 F2 own2 (⟨F,own,F,own,[]⟩::rs))):WT C n ops (o::rest) k F own Q:=by
 have j:∀v,((dst,v)::k:ck)=ew n k o.dst v:=λv=>by{rw[i,aC J]};simp only[j] at h;refine WT.bin l hw P U ?_ g h;cases op<;>first | exact absurd rfl g.1 | exact absurd rfl g.2 | (simp only[mw,TY];exact hr)
theorem WT.AF{t ty:TypeId}{j l:Operand}{x y:Nat}(i:o.op=.binOp .or t j l ty)(hw:aL ops k o=some true){dst:Nat}(g:o.dst=some dst)(p:Nat.blt dst n=true)(r:bg C k j=some (.int .u32 x))(I:bg C k l=some (.int .u32 y))(J:x<4294967296)(by_:y<4294967296)
  (h:WT C n ops rest ((dst,(.int .u32 ((x ||| y:Nat):Int)))::k) F own (λk2 P own2 rs=>Q k2 P own2 (⟨F,own,F,own,[]⟩::rs))):WT C n ops (o::rest) k F own Q:=
 WT.KT i hw g p r I (by simp only[fF,Go.Abs.AF J by_]) (by simp) h
theorem WT.oI{t ty:TypeId}{j l:Operand}{x y:Nat}(i:o.op=.binOp .and t j l ty)(hw:aL ops k o=some true){dst:Nat}(g:o.dst=some dst)(p:Nat.blt dst n=true)(r:bg C k j=some (.int .u32 x))(I:bg C k l=some (.int .u32 y))(J:x<4294967296)(by_:y<4294967296)
  (h:WT C n ops rest ((dst,(.int .u32 ((x &&& y:Nat):Int)))::k) F own (λk2 P own2 rs=>Q k2 P own2 (⟨F,own,F,own,[]⟩::rs))):WT C n ops (o::rest) k F own Q:=
 WT.KT i hw g p r I (by simp only[fF,Go.Abs.oI J by_]) (by simp) h
theorem WT.pX{t ty:TypeId}{j l:Operand}{x y:Nat}(i:o.op=.binOp .andNot t j l ty)(hw:aL ops k o=some true){dst:Nat}(g:o.dst=some dst)(p:Nat.blt dst n=true)(r:bg C k j=some (.int .u32 x))(I:bg C k l=some (.int .u32 y))(J:x<4294967296)(by_:y<4294967296)
  (h:WT C n ops rest ((dst,(.int .u32 ((andNot x y:Nat):Int)))::k) F own (λk2 P own2 rs=>Q k2 P own2 (⟨F,own,F,own,[]⟩::rs))):WT C n ops (o::rest) k F own Q:=
 WT.KT i hw g p r I (by simp only[fF,Go.Abs.pX J by_]) (by simp) h
theorem WT.Cj{t ty:TypeId}{j l:Operand}{x y:Nat}(i:o.op=.binOp .sub t j l ty)(hw:aL ops k o=some true){dst:Nat}(g:o.dst=some dst)(p:Nat.blt dst n=true)(r:bg C k j=some (.int .u32 x))(I:bg C k l=some (.int .u32 y))(P:x<4294967296)(by_:y<=x)
  (h:WT C n ops rest ((dst,(.int .u32 ((x-y:Nat):Int)))::k) F own (λk2 J own2 rs=>Q k2 J own2 (⟨F,own,F,own,[]⟩::rs))):WT C n ops (o::rest) k F own Q:=
 WT.KT i hw g p r I (by{simp only[fF];rw[tP (by omega)];congr 2;omega}) (by simp) h
theorem WT.LJ{op:BinOp}{t ty:TypeId}{P U:Operand}{x y:Nat}{kd:IntKind}{r:Nat}(g:o.op=.binOp op t P U ty)(hw:aL ops k o=some true){dst:Nat}(i:o.dst=some dst)(hn:Nat.blt dst n=true)(p:bg C k P=some (.int .u32 x))(I:bg C k U=some (.int kd (y:Nat)))
  (hr:mF op .u32 x y=some (.int .u32 (r:Nat))) (J:op=.shl\/op=.shr)
  (h:WT C n ops rest ((dst,(.int .u32 (r:Nat)))::k) F own (λk2 F2 own2 rs=>Q k2 F2 own2 (⟨F,own,F,own,[]⟩::rs))):WT C n ops (o::rest) k F own Q:=by
 have j:∀v,((dst,v)::k:ck)=ew n k o.dst v:=λv=>by{rw[i,aC hn]};(simp only[j] at h;refine WT.still (l:=[]) hw (by rw[g];simp only[bl,p,I];rfl) (λh0 _=>?_) h;rw[g];rcases J with rfl | rfl);{simp only[aW,p,I,mw,hr];rfl};{simp only[aW,p,I,mw,hr];rfl}
theorem WT.BI{t ty:TypeId}{l p:Operand}{x y:Nat}{r:IntKind}(i:o.op=.binOp .shl t l p ty)(hw:aL ops k o=some true){dst:Nat}(g:o.dst=some dst)(I:Nat.blt dst n=true)(J:bg C k l=some (.int .u32 x))(P:bg C k p=some (.int r (y:Nat)))(j:y<=32)(U:x*2 ^ y<4294967296)
  (h:WT C n ops rest ((dst,(.int .u32 ((x*2 ^ y:Nat):Int)))::k) F own (λk2 F2 own2 rs=>Q k2 F2 own2 (⟨F,own,F,own,[]⟩::rs))):WT C n ops (o::rest) k F own Q:=
 WT.LJ i hw g I J P (by{have hb:IntKind.u32.bits=32:=rfl;unfold mF;rw[nw (by omega)];simp only[hb,Vu,Ul j];rw[tP];{congr 2};{have:(x:Int)*2 ^ y=((x*2 ^ y:Nat):Int):=by{rw[Vo,Int.natCast_pow];rfl};rw[this];omega}}) (.inl rfl) h
theorem WT.Iv{t ty:TypeId}{l p:Operand}{x y:Nat}{r:IntKind}(i:o.op=.binOp .shr t l p ty)(hw:aL ops k o=some true){dst:Nat}(g:o.dst=some dst)(I:Nat.blt dst n=true)(J:bg C k l=some (.int .u32 x))(P:bg C k p=some (.int r (y:Nat)))(j:y<=32)
  (h:WT C n ops rest ((dst,(.int .u32 ((x / 2 ^ y:Nat):Int)))::k) F own (λk2 U own2 rs=>Q k2 U own2 (⟨F,own,F,own,[]⟩::rs))):WT C n ops (o::rest) k F own Q:=
 WT.LJ i hw g I J P (by{have hb:IntKind.u32.bits=32:=rfl;unfold mF;rw[nw (by omega)];simp only[hb,Vu,Ul j];congr 2;rw[Int.natCast_ediv,Int.natCast_pow];exact Int.fdiv_eq_ediv_of_nonneg _ (Int.pow_nonneg (by decide))}) (.inr rfl) h
theorem WT.conv(hT:aU C T=true){s d:TypeId}{p:Operand}{r r2:Row}{t k2:IntKind}{x:Int}(g:o.op=.convert s d p)(hw:aL ops k o=some true){dst:Nat}(i:o.dst=some dst)(I:Nat.blt dst n=true)(J:bg C k p=some (.int t x))(hs:rowOf T s=some r2)(P:rowOf T d=some r)(U:r.d=.int k2)(hf:k2.wrap x=x)
  (h:WT C n ops rest ((dst,(.int k2 x))::k) F own (λk2 F2 own2 rs=>Q k2 F2 own2 (⟨F,own,F,own,[]⟩::rs))):WT C n ops (o::rest) k F own Q:=by
 have j:∀v,((dst,v)::k:ck)=ew n k o.dst v:=λv=>by{rw[i,aC I]};simp only[j] at h;refine WT.still (l:=[]) hw (by rw[g];rfl) (λh0 _=>?_) h;obtain⟨_,_,_,_,d2,h4,h5⟩:=dL hT hs;rw[g];simp only[aW,J,Ay,h4,uN hT P U,hf];rfl
end
end Go.Abs
/-
 Grammars as data,and how they lie.
-/
set_option linter.unusedVariables false
namespace Go.Abs
open Go
structure Sym where
 term:Bool
 n:Nat
deriving DecidableEq
structure bY where
 left:Nat
 right:List Sym
deriving DecidableEq
structure aj where
 ae:Nat
 ay:Nat
 start:Nat
 rules:List bY
def eV:Ty Nat where
 size:=1
 rel:=λ_ l x=>l=[.int .i64 x]
 len:=λ_ _ _ h=>by rw[h];rfl
 one:=λ_ _ _ h=>by rw[h];rfl
 mono:=λ_ _ _ _ _ h=>h
def gR:Ty Sym where
 size:=2
 rel:=λ_ l x=>l=[.bool x.term,.int .i64 x.n]
 len:=λ_ _ _ h=>by rw[h];rfl
 one:=λ_ _ _ h=>by rw[h];rfl
 mono:=λ_ _ _ _ _ h=>h
def cD:Ty bY where
 size:=2
 rel:=λF l x=>∃a n c,l=[.int .i64 x.left,.slice a n c]/\bk gR F a n c x.right
 len:=λ_ _ _ h=>by obtain⟨a,n,c,rfl,_⟩:=h;rfl
 one:=λ_ _ _ h=>by obtain⟨a,n,c,rfl,_⟩:=h;rfl
 mono:=λ_ _ _ _ g h=>by obtain⟨a,n,c,e,h⟩:=h;exact⟨a,n,c,e,h.mono g⟩
def QH(F:aA)(v:Value)(g:aj):Prop:=∃a n c,v=.agg ⟨[.int .i64 g.ae,.int .i64 g.ay,.int .i64 g.start,.slice a n c]⟩/\bk cD F a n c g.rules
theorem O8(x y:Sym):((x.term==y.term)&&(((x.n:Int)==(y.n:Int))&&true))=decide (x=y):=by
 obtain⟨a,n⟩:=x;obtain⟨b,m⟩:=y;rw[T8];simp[Int.natCast_inj]
end Go.Abs
namespace Go.Abs
open Go
section
variable {C:Ctx}{n:Nat}{k:ck}{F:aA}{own:bA}{ops rest:List Oper}{o:Oper}{Q:ck->aA->bA->List Rec->Prop}
theorem WT.Qn{dst:Nat}{l:List Nat}(hw:aL ops k o=some false)(g:o.dst=some dst)(i:Nat.blt dst n=true)(j:bl (bg C k) o.op=some l)
  (h:WT C n ops rest ((dst,bX)::k) F own (λk2 p own2 rs=>Q k2 p own2 (⟨F,own,F,own,l⟩::rs))):WT C n ops (o::rest) k F own Q:=
 WT.skip hw j (by rw[g,aC i];exact h)
theorem WT.QA{l:List Nat}(hw:aL ops k o=some false)(g:o.dst=none)(i:bl (bg C k) o.op=some l)
  (h:WT C n ops rest k F own (λk2 j own2 rs=>Q k2 j own2 (⟨F,own,F,own,l⟩::rs))):WT C n ops (o::rest) k F own Q:=
 WT.skip hw i (by rw[g];exact h)
end
end Go.Abs
namespace Go.Abs
open Go
def kindOf:Op->Nat
 | .load _ _=>1
 | .store _ _ _=>2
 | .binOp _ _ _ _ _=>3
 | .indexAddr _ _ _=>4
 | _=>0
section
variable {C:Ctx}{n:Nat}{k:ck}{F:aA}{own:bA}{ops rest:List Oper}{o:Oper}{Q:ck->aA->bA->List Rec->Prop}
theorem WT.kind(m:Nat)(_:Nat.beq (kindOf o.op) m=true)(h:WT C n ops (o::rest) k F own Q):WT C n ops (o::rest) k F own Q:=h
end
end Go.Abs
/-
 Calls in the forms that walks use;lending;slices that are made and written to.
-/
set_option linter.unusedVariables false
namespace Go.Abs
open Go
def aA.ja(F:aA)(B:List (Nat×aJ)):aA:=λj=>match B.find? (λp=>p.1==j) with
 | some p=>some p.2
 | none=>F j
theorem LI{B:List (Nat×aJ)}(g:(B.map (·.1)).Nodup){i:Nat}{b:aJ}(h:(i,b)∈B):B.find? (λp=>p.1==i)=some (i,b):=by
 induction B with| nil=>{cases h}| cons p B l=>{simp only[y2,TJ] at g;rcases PJ.1 h with rfl | h;{simp};{have j:p.1≠i:=λe=>g.1 (e▸Ud h);rw[List.find?_cons,show (p.1==i)=false by simpa using j];exact l g.2 h}}
theorem aA.FJ{F:aA}{B:List (Nat×aJ)}(g:(B.map (·.1)).Nodup){i:Nat}{b:aJ}(h:(i,b)∈B):aA.ja F B i=some b:=by
 unfold aA.ja;rw[LI g h]
theorem aA.HO{F:aA}{B:List (Nat×aJ)}(h:∀p∈B,F p.1=none):aA.le F (aA.ja F B):=λi b q=>by
 unfold aA.ja;split;{rename_i p hp;have h1:=VJ hp;have g:=List.find?_some hp;have:p.1=i:=by{simpa using g};have:=h p h1;simp_all};{exact q}
theorem St.aw{F:aA}{own:bA}{h:au}{B:List (Nat×aJ)}(s:St F (B::own) h) :
  St (aA.ja F B) own h/\aA.le F (aA.ja F B)/\∀i b,(i,b)∈B->aA.ja F B i=some b:=by
 have j:kM F (B++own.flatten) h:=by{simpa [St] using s};have g:=j.nodup;rw[Th,Uf] at g;have o:∀p∈B,F p.1=none:=λp hp=>j.apart p (Te _ hp);have hle:=aA.HO o;refine⟨⟨λi b q=>?_,λp hp=>j.has p (Tf _ hp),λp hp=>?_,g.2.1,j.wf⟩,hle,λi b hm=>aA.FJ g.1 hm⟩;{unfold aA.ja at q;split at q;{rename_i p hp;cases q;have h1:=VJ hp;have r:=List.find?_some hp;have:p.1=i:=by{simpa using r};rw[<-this];exact j.has p (Te _ h1)};{exact j.Bl i b q}};{unfold aA.ja;split;{rename_i t l;have h1:=VJ l;have r:=List.find?_some l;have C:t.1=p.1:=by{simpa using r};exact absurd C (g.2.2 _ (Ud h1) _ (Ud hp))};{exact j.apart p (Tf _ hp)}}
theorem Spec.I6{C:Ctx}{f:FuncId}{args:List Value}{F:aA}{oin:bA}{P:Value->bA->Prop}{B:List (Nat×aJ)}
  (spec:∀G,aA.le F G->(∀i b,(i,b)∈B->G i=some b)->Spec C f args G oin λ_ v o=>P v o):Spec C f args F (B::oin) λ_ v o=>∃J,o=B::J/\P v J:=by
 intro own h hs;have hs:St F (B::(oin++own)) h:=hs;obtain⟨s1,hle,R⟩:=hs.aw;obtain⟨v,t,U,j,h1,I,h3,h4⟩:=spec _ hle R own h s1;have s0:kM F (B++(oin++own).flatten) h:=by{simpa [St] using hs};have l:=s0.nodup;rw[Th,Uf] at l;have g:kM U (j++own).flatten t:=h3;have r:∀i b,(i,b)∈B->U i=some b:=λi b hm=>I i b (R i b hm);refine⟨v,t,F,B::j,h1,aA.le.refl F,?_,j,rfl,h4⟩;show kM F (B++(j++own).flatten) t;refine⟨λi b q=>g.Bl i b (I i b (hle i b q)),λp hp=>?_,λp hp=>?_,?_,g.wf⟩;{rcases D1.1 hp with hp | hp;{exact g.Bl _ _ (r p.1 p.2 hp)};{exact g.has p hp}};{rcases D1.1 hp with hp | hp;{exact s0.apart p (Te _ hp)};{have:=g.apart p hp;cases hf:F p.1 with| none=>{rfl}| some b=>{rw[I _ _ (hle _ _ hf)] at this;cases this}}};{rw[Th,Uf];refine⟨l.1,g.nodup,λa ha b hb=>?_⟩;obtain⟨p,hp,rfl⟩:=x6.1 ha;obtain⟨q,hq,rfl⟩:=x6.1 hb;intro e;have h5:=g.apart q hq;rw[<-e,r p.1 p.2 hp] at h5;cases h5}
section
variable {C:Ctx}{T:RT}{n:Nat}{k:ck}{F:aA}{own:bA}{ops rest:List Oper}{o:Oper}{Q:ck->aA->bA->List Rec->Prop}{α:Type}{R:Ty α}
theorem WT.bj{f:FuncId}{fn:Func}{as:Array Operand}{ts:Array TypeId}{args:List Value}{P:Value->Prop}(t:C.func f=some fn)(I:fn.body.isSome=true)(g:o.op=.call ⟨.value (.func f),as,ts⟩)
  (hw:aL ops k o=some true) {dst:Nat} (i:o.dst=some dst) (J:Nat.blt dst n=true) (U:dm (bg C k) as.toList=some args) (spec:Spec C f args F [] λ_ v o=>o=[]/\P v)
  (h:∀v,P v->WT C n ops rest ((dst,v)::k) F own (λk2 F2 own2 rs=>Q k2 F2 own2 (⟨F,own,F,own,[]⟩::rs))) :
  WT C n ops (o::rest) k F own Q:=by
 refine WT.step (l:=[]) (by rw[g];rfl) λe p hk hs=>?_;obtain⟨v,h1,F1,r,⟨m,hd⟩,hF,j,rfl,hp⟩:=spec own p hs;refine⟨v,h1,F,own,⟨m,λN hN=>?_⟩,aA.le.refl F,j.nZ hF,by rw[i,aC J];exact h v hp⟩;unfold cq;rw[dS hk hw];have:aW C (bg C k) p o.op=some (.call f args):=by{rw[g];simp only[aW,bg,U,mf,t,I,xf];simp};simp only[dP hk.eval this,hd N hN]
theorem WT.bE{f:FuncId}{fn:Func}{as:Array Operand}{ts:Array TypeId}{args:List Value}{P:aA->Value->Prop}(p:C.func f=some fn)(r:fn.body.isSome=true)(j:o.op=.call ⟨.value (.func f),as,ts⟩)
  (hw:aL ops k o=some true) {dst:Nat} (i:o.dst=some dst) (t:Nat.blt dst n=true) (I:dm (bg C k) as.toList=some args) (spec:Spec C f args F [] λg v o=>o=[]/\P g v)
  (h:∀g v,aA.le F g->P g v->WT C n ops rest ((dst,v)::k) g own (λk2 J own2 rs=>Q k2 J own2 (⟨F,own,g,own,[]⟩::rs))) :
  WT C n ops (o::rest) k F own Q:=
 WT.wH p r j hw i t I spec (sh _) (λg v l U hP=>by obtain⟨rfl,hp⟩:=hP;exact h g v U hp)
theorem WT.pj(p:Nat){f:FuncId}{fn:Func}{as:Array Operand}{ts:Array TypeId}{args:List Value}{B:List (Nat×aJ)}{dx:List (Nat×aJ)->bA}{P:Value->List (Nat×aJ)->Prop}(hf:C.func f=some fn)(hb:fn.body.isSome=true)(i:o.op=.call ⟨.value (.func f),as,ts⟩)
  (hw:aL ops k o=some true) {dst:Nat} (j:o.dst=some dst) (hn:Nat.blt dst n=true) (hv:dm (bg C k) as.toList=some args) (hp:own[p]?=some B) (r:∀g,ku own p g=some (dx g))
  (spec:Spec C f args F [B] λ_ v o=>∃g,o=[g]/\P v g)
  (h:∀v g,P v g->WT C n ops rest ((dst,v)::k) F (dx g) (λk2 F2 own2 rs=>Q k2 F2 own2 (⟨F,own,F,dx g,[]⟩::rs))) :
  WT C n ops (o::rest) k F own Q:=by
 refine WT.step (l:=[]) (by rw[i];rfl) λe J hk hs=>?_;obtain⟨v,h1,F1,U,⟨m,hd⟩,hF,t,g,rfl,I⟩:=spec (own.eraseIdx p) J (hs.perm (bI hp));have e1:=cQ _ _ _ _ (r g);refine⟨v,h1,F,dx g,⟨m,λN hN=>?_⟩,aA.le.refl F,?_,by rw[j,aC hn];exact h v g I⟩;{unfold cq;rw[dS hk hw];have:aW C (bg C k) J o.op=some (.call f args):=by{rw[i];simp only[aW,bg,hv,mf,hf,hb,xf];simp};simp only[dP hk.eval this,hd N hN]};{rw[<-e1];exact(t.nZ hF).perm (fe g hp).symm}
theorem WT.fP(p:Nat){f:FuncId}{fn:Func}{as:Array Operand}{ts:Array TypeId}{args:List Value}{B:List (Nat×aJ)}{P:Value->Prop}(U:C.func f=some fn)(hb:fn.body.isSome=true)(g:o.op=.call ⟨.value (.func f),as,ts⟩)
  (hw:aL ops k o=some true) {dst:Nat} (j:o.dst=some dst) (hn:Nat.blt dst n=true) (hv:dm (bg C k) as.toList=some args) (hp:own[p]?=some B)
  (spec:∀G,aA.le F G->(∀i b,(i,b)∈B->G i=some b)->Spec C f args G [] λ_ v o=>o=[]/\P v)
  (h:∀v,P v->WT C n ops rest ((dst,v)::k) F own (λk2 F2 own2 rs=>Q k2 F2 own2 (⟨F,own,F,own,[]⟩::rs))) :
  WT C n ops (o::rest) k F own Q:=by
 refine WT.step (l:=[]) (by rw[g];rfl) λe I hk hs=>?_;obtain⟨v,h1,F1,J,⟨m,hd⟩,hF,r,o',rfl,rfl,t⟩:=Spec.I6 spec (own.eraseIdx p) I (hs.perm (bI hp));refine⟨v,h1,F,own,⟨m,λN hN=>?_⟩,aA.le.refl F,?_,by rw[j,aC hn];exact h v t⟩;{unfold cq;rw[dS hk hw];have:aW C (bg C k) I o.op=some (.call f args):=by{rw[g];simp only[aW,bg,hv,mf,U,hb,xf];simp};simp only[dP hk.eval this,hd N hN]};{exact(r.nZ hF).perm (bI hp).symm}
theorem WT.aw(p:Nat){B:List (Nat×aJ)}{aY:bA}(hp:own[p]?=some B)(j:ku own p []=some aY)
  (h:∀G,aA.le F G->(∀i b,(i,b)∈B->G i=some b)->WT C n ops rest k G aY Q):WT C n ops rest k F own Q:=by
 intro e g hk hs;have l:=cQ _ _ _ _ j;obtain⟨s1,hle,r⟩:=(hs.perm (bI hp)).aw;have s2:St (aA.ja F B) aY g:=by{rw[<-l];refine St.perm (own:=[]::own.eraseIdx p) ?_ (fe [] hp).symm;exact s1};obtain⟨t,I,tr,k2,J,own2,rs,P,U,h5,h6⟩:=h _ hle r e g hk s2;exact⟨t,I,tr,k2,J,own2,rs,P,U,hle.trans h5,h6⟩
theorem AW.aw{c:Code}{A:Ex->ck->aA->bA->Prop}(p:Nat){B:List (Nat×aJ)}{aY:bA}(hp:own[p]?=some B)(j:ku own p []=some aY)
  (h:∀G,aA.le F G->(∀i b,(i,b)∈B->G i=some b)->AW C n c k G aY A):AW C n c k F own A:=by
 intro e g hk hs;have l:=cQ _ _ _ _ j;obtain⟨s1,hle,r⟩:=(hs.perm (bI hp)).aw;have s2:St (aA.ja F B) aY g:=by{rw[<-l];exact St.perm (own:=[]::own.eraseIdx p) s1 (fe [] hp).symm};obtain⟨x,t,I,k2,J,own2,P,U,h5,h6⟩:=h _ hle r e g hk s2;exact⟨x,t,I,k2,J,own2,P,U,hle.trans h5,h6⟩
theorem cb.frozen{a:Option Addr}{m c:Nat}{B:List (Nat×aJ)}{xs:List α}(g:cb R F a m c B xs){G:aA}(j:aA.le F G)(l:∀i b,(i,b)∈B->G i=some b):bk R G a m c xs:=g.arr j l
theorem WT.aZ(hT:aU C T=true)(p:Nat){B:List (Nat×aJ)}{dx:List (Nat×aJ)->bA}{a:Option Addr}{m c d by_:Nat}{xs ys:List α}{ds:List Value}{t e:Nat}{ts:List TypeId}{r:Row}{z x:Value}{xo so:Operand}
  (hb:cb R F a m c B xs) (hp:own[p]?=some B) (j:∀g,ku own p g=some (dx g)) (aa:o.op=.call ⟨.builtin .append,⟨[so,xo]⟩,⟨t::ts⟩⟩) (hw:aL ops k o=some true) {dst:Nat} (l:o.dst=some dst) (hn:Nat.blt dst n=true)
  (hs:bg C k so=some (.slice a m c)) (hx:bg C k xo=some x) (hr:rowOf T t=some r) (hd:r.d=.slice e) (ab:ef T e=some R.size) (hz:gL T e=some z) (ac:nF T e=some by_)
  (I:∀h,St F own h->kD C h e R.size ts.head? x=some (d,ds)) (ad:aG R F ds ys) (hlen:d=ys.length) (J:0<d/\0<R.size/\0<by_) (i:(m+d)*by_<=140737488355328)
  (h:∀P U g,cb R F P (m+d) U g (xs++ys)->WT C n ops rest ((dst,.slice P (m+d) U)::k) F (dx g) (λk2 F2 own2 rs=>Q k2 F2 own2 (⟨F,own,F,dx g,[]⟩::rs))) :
  WT C n ops (o::rest) k F own Q:=
 WT.append hT p hb hp aa hw l hn hs hx hr hd ab hz ac I ad hlen J i (λP U g hB=>by{rw[cQ _ _ _ _ (j g)];exact h P U g hB})
theorem WT.aR(hT:aU C T=true){t e len g:Nat}{ps:Array (Nat×Operand)}{vs:List (Nat×Value)}{r:Row}{z:Value}{cs:List Value}{cap:Nat}(J:o.op=.buildSlice t len ps)(hw:aL ops k o=some true){dst:Nat}(p:o.dst=some dst)(hn:Nat.blt dst n=true)
  (P:fC (bg C k) ps.toList=some vs) (hr:rowOf T t=some r) (hd:r.d=.slice e) (U:ef T e=some g) (hz:gL T e=some z) (aa:(Nat.ble (len*g) 16777216&&Nat.blt 0 g)=true)
  {j:List Value} (l:BN (λi=>some (i*g,g)) (dH z.cells.toList len) vs=some j) (hlen:j.length=len*g) (ab:takeN (len*g) j=some cs) (I:(bif len==0 then 0 else g)=cap)
  (h:∀i,F i=none->WT C n ops rest ((dst,.slice (some ⟨i,0,none⟩) len cap)::k) F ([(i,.cells false cs)]::own) (λk2 F2 own2 rs=>Q k2 F2 own2 (⟨F,own,F,[(i,.cells false cs)]::own,[]⟩::rs))) :
  WT C n ops (o::rest) k F own Q:=by
 subst I;have:=(oZ _ _ _ ab).1;rw[<-hlen,Uo] at this;subst this;exact WT.buildSlice hT J hw p hn P hr hd U hz aa (sV _ _ _ l) h
end
end Go.Abs
namespace Go.Abs
open Go
theorem eW{i j:Nat}{ps:List (Nat×Nat)}{rs:List Rec}{a b:Rec}(o:rs[i]?=some a)(p:rs[j]?=some b)(hk:∀x∈a.looks,b.keeps x)(h:mq ps rs):mq ((i,j)::ps) rs:=by
 refine⟨λr b' g l=>?_,h⟩;rw[o] at g;rw[p] at l;cases g;cases l;exact .inl hk
theorem vt{i j:Nat}{ps:List (Nat×Nat)}{rs:List Rec}{a b:Rec}(t:rs[i]?=some a)(C:rs[j]?=some b)(o:i<j)(hk:∀r,St b.F' b.aY r->a.bend.p r)(h:mq ps rs):mq ((i,j)::ps) rs:=by
 refine⟨λI b' g l=>?_,h⟩;rw[t] at g;rw[C] at l;cases g;cases l;exact .inr ⟨o,hk⟩
theorem pJ{b:Rec}:∀y∈([]:List Nat),b.keeps y:=λ_ h=>by cases h
theorem wM{b:Rec}{x:Nat}(h:b.keeps x):∀y∈[x],b.keeps y:=λy g=>by rw[ti.1 g];exact h
theorem Mi{r:Rec}{x:Nat}{bQ:aJ}(p q:Nat){B g:List (Nat×aJ)}(h1:r.own[p]?=some B)(i:(x,bQ)∈B)(j:r.aY[q]?=some g)(l:(x,bQ)∈g):r.keeps x:=
 .inr ⟨bQ,VC.2 ⟨B,Uj h1,i⟩,VC.2 ⟨g,Uj j,l⟩⟩
theorem jB{r:Rec}{x:Nat}{bQ:aJ}(h:r.F x=some bQ):r.keeps x:=.inl ⟨bQ,h⟩
end Go.Abs
namespace Go.Abs
open Go
section
variable {C:Ctx}{T:RT}{n:Nat}{k:ck}{F:aA}{own:bA}{ops rest:List Oper}{o:Oper}{Q:ck->aA->bA->List Rec->Prop}{α:Type}{R:Ty α}
theorem WT.S2(hT:aU C T=true){t ty:TypeId}{j l:Operand}{a b:Bool}{r:Row}(g:o.op=.binOp .eql t j l ty)(hw:aL ops k o=some true){dst:Nat}(i:o.dst=some dst)(J:Nat.blt dst n=true)
  (p:bg C k j=some (.bool a)) (I:bg C k l=some (.bool b)) (P:rowOf T t=some r) (U:r.d=.bool)
  (h:WT C n ops rest ((dst,.bool (a==b))::k) F own (λk2 F2 own2 rs=>Q k2 F2 own2 (⟨F,own,F,own,[]⟩::rs))):WT C n ops (o::rest) k F own Q:=by
 refine WT.still hw (by rw[g];simp only[bl,p,I];rfl) (λh0 _=>?_) (by rw[i,aC J];exact h);rw[g];have hu:=uA hT P U;simp only[aW,p,I,mw,jH,xf,equalA,hu];unfold rD;simp only[hu,fL];rfl
theorem WT.SJ(hT:aU C T=true){t ty:TypeId}{j l:Operand}{a b:Bool}{r:Row}(g:o.op=.binOp .neq t j l ty)(hw:aL ops k o=some true){dst:Nat}(i:o.dst=some dst)(J:Nat.blt dst n=true)
  (p:bg C k j=some (.bool a)) (I:bg C k l=some (.bool b)) (P:rowOf T t=some r) (U:r.d=.bool)
  (h:WT C n ops rest ((dst,.bool (!(a==b)))::k) F own (λk2 F2 own2 rs=>Q k2 F2 own2 (⟨F,own,F,own,[]⟩::rs))):WT C n ops (o::rest) k F own Q:=by
 refine WT.still hw (by rw[g];simp only[bl,p,I];rfl) (λh0 _=>?_) (by rw[i,aC J];exact h);rw[g];have hu:=uA hT P U;simp only[aW,p,I,mw,jH,xf,equalA,hu];unfold rD;simp only[hu,fL];rfl
theorem WT.Qr(hT:aU C T=true){t:TypeId}{l:Operand}{i off:Nat}{ro:Bool}{cs:List Value}{v:Value}(p:F i=some (.cells ro cs))(j:o.op=.load t l)(hw:aL ops k o=some true){dst:Nat}(g:o.dst=some dst)(r:Nat.blt dst n=true)
  (I:bg C k l=some (.pointer (some ⟨i,off,none⟩))) (J:oK T cs t off=some v)
  (h:WT C n ops rest ((dst,v)::k) F own (λk2 P own2 rs=>Q k2 P own2 (⟨F,own,F,own,[i]⟩::rs))):WT C n ops (o::rest) k F own Q:=
 WT.xY j hw I p (aM hT J) (by rw[g,aC r];exact h)
theorem sq{f:FuncId}{fn:Func}{first args capt:List Value}(g:C.func f=some fn)(i:fn.body.isSome=true):mf C (.func (.func f) ⟨first⟩ ⟨capt⟩) args=some (.call f (first++args++capt)):=by
 simp only[mf,g,i,xf]
theorem WT.kz{f:FuncId}{fn:Func}{fo:Operand}{as:Array Operand}{ts:Array TypeId}{args args' first capt:List Value}{P:Value->Prop}(J:C.func f=some fn)(U:fn.body.isSome=true)(i:o.op=.call ⟨.value fo,as,ts⟩)
  (hw:aL ops k o=some true) {dst:Nat} (j:o.dst=some dst) (hn:Nat.blt dst n=true) (p:bg C k fo=some (.func (.func f) ⟨first⟩ ⟨capt⟩)) (hv:dm (bg C k) as.toList=some args) (g:first++args++capt=args') (spec:Spec C f args' F [] λ_ v o=>o=[]/\P v)
  (h:∀v,P v->WT C n ops rest ((dst,v)::k) F own (λk2 F2 own2 rs=>Q k2 F2 own2 (⟨F,own,F,own,[]⟩::rs))) :
  WT C n ops (o::rest) k F own Q:=by
 subst g;refine WT.step (l:=[]) (by rw[i];rfl) λe t hk hs=>?_;obtain⟨v,h1,F1,I,⟨m,hd⟩,hF,r,rfl,hp⟩:=spec own t hs;refine⟨v,h1,F,own,⟨m,λN hN=>?_⟩,aA.le.refl F,r.nZ hF,by rw[j,aC hn];exact h v hp⟩;unfold cq;rw[dS hk hw];have:aW C (bg C k) t o.op=some (.call f (first++args++capt)):=by{rw[i];simp only[aW,p,hv,sq J U]};simp only[dP hk.eval this,hd N hN]
end
end Go.Abs
/-
 Slices that are made and written to;rows of a table;numbers of 32 bits.
-/
set_option linter.unusedVariables false
namespace Go.Abs
open Go
section
variable {C:Ctx}{T:RT}{n:Nat}{k:ck}{F:aA}{own:bA}{ops rest:List Oper}{o:Oper}{Q:ck->aA->bA->List Rec->Prop}{α:Type}{R:Ty α}
theorem WT.gn(d:Nat){v v':Value}(g:lk k d=some v)(e:v=v')(h:WT C n ops rest ((d,v')::k) F own Q):WT C n ops rest k F own Q:=
 WT.weaken (jd.DO (e▸g)) h
theorem AW.gn{c:Code}{A:Ex->ck->aA->bA->Prop}(d:Nat){v v':Value}(g:lk k d=some v)(e:v=v')(h:AW C n c ((d,v')::k) F own A):AW C n c k F own A:=
 AW.weaken (jd.DO (e▸g)) h
theorem WT.cH(hT:aU C T=true){t e s:Nat}{r:Row}{p io:Operand}{b off m c:Nat}{I:IntKind}{j:Nat}(g:o.op=.indexAddr t p io)(hw:aL ops k o=some true){dst:Nat}(i:o.dst=some dst)(J:Nat.blt dst n=true)
  (P:bg C k p=some (.slice (some ⟨b,off,none⟩) m c)) (hi:bg C k io=some (.int I (j:Nat))) (U:rowOf T t=some r) (hd:r.d=.slice e) (hs:ef T e=some s) (hj:j<m)
  (h:WT C n ops rest ((dst,.pointer (some ⟨b,off+j*s,none⟩))::k) F own (λk2 F2 own2 rs=>Q k2 F2 own2 (⟨F,own,F,own,[]⟩::rs))):WT C n ops (o::rest) k F own Q:=by
 refine WT.still (l:=[]) hw (by rw[g];rfl) (λh0 _=>?_) (by rw[i,aC J];exact h);rw[g];simp only[aW,P,hi,jC,bP hT U hd,bS hT hs];rw[n0 ⟨U6 j,by omega⟩];simp
theorem WT.vO(hT:aU C T=true){t e s len:Nat}{r:Row}{p io:Operand}{b off:Nat}{I:IntKind}{j:Nat}(g:o.op=.indexAddr t p io)(hw:aL ops k o=some true){dst:Nat}(i:o.dst=some dst)(J:Nat.blt dst n=true)
  (P:bg C k p=some (.pointer (some ⟨b,off,none⟩))) (hi:bg C k io=some (.int I (j:Nat))) (U:rowOf T t=some r) (hd:r.d=.array len e) (hs:ef T e=some s) (hj:j<len)
  (h:WT C n ops rest ((dst,.pointer (some ⟨b,off+j*s,none⟩))::k) F own (λk2 F2 own2 rs=>Q k2 F2 own2 (⟨F,own,F,own,[]⟩::rs))):WT C n ops (o::rest) k F own Q:=by
 refine WT.still (l:=[]) hw (by rw[g];rfl) (λh0 _=>?_) (by rw[i,aC J];exact h);rw[g];simp only[aW,P,hi,jC,mN hT U hd,bS hT hs];rw[n0 ⟨U6 j,by omega⟩];simp
theorem AG(hT:aU C T=true){t off:Nat}{r:Row}{cs:List Value}{v:Value}(g:rowOf T t=some r)(i:r.d.agg=false)(j:cs[off]?=some v):fN C cs t off=some v:=by
 obtain⟨_,h1,_,_,d,l,p⟩:=dL hT g;unfold fN;rw[l];simp only[vN p,i,zm];exact j
theorem WT.loadAt(hT:aU C T=true)(p:Nat){t:TypeId}{l:Operand}{i off:Nat}{ro:Bool}{cs:List Value}{v:Value}{r:Row}{B:List (Nat×aJ)}(j:o.op=.load t l)(hw:aL ops k o=some true){dst:Nat}(g:o.dst=some dst)(I:Nat.blt dst n=true)
  (J:bg C k l=some (.pointer (some ⟨i,off,none⟩))) (hp:own[p]?=some B) (P:(i,aJ.cells ro cs)∈B) (U:rowOf T t=some r) (hd:r.d.agg=false) (hv:cs[off]?=some v)
  (h:WT C n ops rest ((dst,v)::k) F own (λk2 F2 own2 rs=>Q k2 F2 own2 (⟨F,own,F,own,[i]⟩::rs))):WT C n ops (o::rest) k F own Q:=
 WT.uj p j hw J hp P (AG hT U hd hv) (by rw[g,aC I];exact h)
theorem WT.M1(hT:aU C T=true){t:TypeId}{l:Operand}{i off:Nat}{ro:Bool}{cs:List Value}{v:Value}{r:Row}(p:F i=some (.cells ro cs))(j:o.op=.load t l)(hw:aL ops k o=some true){dst:Nat}(g:o.dst=some dst)(I:Nat.blt dst n=true)
  (J:bg C k l=some (.pointer (some ⟨i,off,none⟩))) (P:rowOf T t=some r) (U:r.d.agg=false) (hv:cs[off]?=some v)
  (h:WT C n ops rest ((dst,v)::k) F own (λk2 F2 own2 rs=>Q k2 F2 own2 (⟨F,own,F,own,[i]⟩::rs))):WT C n ops (o::rest) k F own Q:=
 WT.xY j hw J p (AG hT P U hv) (by rw[g,aC I];exact h)
theorem WT.storeAt(hT:aU C T=true)(p q:Nat){B r:List (Nat×aJ)}{aY:bA}{t:TypeId}{a x:Operand}{i off:Nat}{cs:List Value}{v:Value}(g:o.op=.store t a x)(hw:aL ops k o=some true)(I:o.dst=none)(J:bg C k a=some (.pointer (some ⟨i,off,none⟩)))
  (P:bg C k x=some v) (hp:own[p]?=some B) (U:B[q]?=some (i,.cells false cs)) (hm:ef T t=some 1) (j:v.cells.toList=[v]) (h1:one v=true) (l:off<cs.length)
  (hB:B.set q (i,.cells false (cs.set off v))=r) (ho:ku own p r=some aY)
  (h:WT C n ops rest k F aY (λk2 F2 own2 rs=>Q k2 F2 own2 (⟨F,own,F,aY,[i]⟩::rs))) :
  WT C n ops (o::rest) k F own Q:=by
 have e2:=cQ _ _ _ _ ho;subst hB;subst e2;have hs:bp cs off v.cells.toList=cs.set off v:=by{unfold bp;rw[j,List.set_eq_take_append_cons_drop,n0 l];rfl};have:=WT.store (C:=C) (n:=n) (k:=k) (F:=F) (Q:=Q) (rest:=rest) (ops:=ops) p q g hw J P hp U (bS hT hm) (by rw[j];rfl) (by rw[j];simp[h1]) (by omega);rw[hs] at this;exact this (by rw[I];exact h)
def Oc:Value->Option Value
 | .int k n=>some (.int k n)
 | .bool b=>some (.bool b)
 | .slice a n c=>some (.slice a n c)
 | .pointer p=>some (.pointer p)
 | .map m=>some (.map m)
 | _=>none
theorem ML:∀{v w:Value},Oc v=some w->v=w/\v.cells.toList=[w]
 | .int _ _,_,h=>by cases h;exact⟨rfl,rfl⟩
 | .bool _,_,h=>by cases h;exact⟨rfl,rfl⟩
 | .slice _ _ _,_,h=>by cases h;exact⟨rfl,rfl⟩
 | .pointer _,_,h=>by cases h;exact⟨rfl,rfl⟩
 | .map _,_,h=>by cases h;exact⟨rfl,rfl⟩
 | .float ..,_,h=>by cases h
 | .complex ..,_,h=>by cases h
 | .string ..,_,h=>by cases h
 | .chan ..,_,h=>by cases h
 | .func ..,_,h=>by cases h
 | .nilFunc,_,h=>by cases h
 | .iface ..,_,h=>by cases h
 | .nilIface,_,h=>by cases h
 | .agg ..,_,h=>by cases h
 | .tuple ..,_,h=>by cases h
theorem WT.oH(hT:aU C T=true){t e by_:Nat}{lo co:Operand}{l:Nat}{r:Row}{z J:Value}(p:o.op=.makeSlice t lo co)(hw:aL ops k o=some true){dst:Nat}(I:o.dst=some dst)(hn:Nat.blt dst n=true)
  (hl:bg C k lo=some (.int .i64 (l:Nat))) (hc:bg C k co=some (.int .i64 (l:Nat))) (hr:rowOf T t=some r) (hd:r.d=.slice e) (P:ef T e=some 1) (hz:gL T e=some z) (U:Oc z=some J) (aa:nF T e=some by_)
  (g:l<=281474976710656/\by_*l<=281474976710656)
  (h:∀i,F i=none->WT C n ops rest ((dst,.slice (some ⟨i,0,none⟩) l (bif l==0 then 0 else 1))::k) F ([(i,.cells false (List.replicate l J))]::own) (λk2 F2 own2 rs=>Q k2 F2 own2 (⟨F,own,F,[(i,.cells false (List.replicate l J))]::own,[]⟩::rs))) :
  WT C n ops (o::rest) k F own Q:=by
 have ab:=(ML U).2;have j:dH z.cells.toList l=List.replicate l J:=by{rw[ab];clear g h hl hc;induction l with| zero=>{rfl}| succ l ih=>{simp only[dH,ih,List.replicate_succ];rfl}};refine WT.new (mk:=λi=>.slice (some ⟨i,0,none⟩) l (bif l==0 then 0 else 1)) (l:=[]) hw (by rw[p];rfl) (λh0 _=>?_) (λi hi=>by rw[I,aC hn];exact h i hi);rw[p];simp only[aW,hl,hc,jM,bP hT hr hd,bS hT P,cZ hT hz,fV hT aa];have h2:((by_:Nat):Int)*(l:Int)<=281474976710656:=by{have:=g.2;have h2:((by_*l:Nat):Int)<=281474976710656:=by{omega};rwa [Vo] at h2};have h3:(0:Int)<=l/\True/\(l:Int)<=281474976710656/\(by_:Int)*(l:Int)<=281474976710656/\0<1:=⟨U6 l,trivial,by omega,h2,by decide⟩;rw[n0 h3];simp[j]
theorem WT.Pa{t ty:TypeId}{l p:Operand}{x y:Nat}(j:o.op=.binOp .mul t l p ty)(hw:aL ops k o=some true){dst:Nat}(i:o.dst=some dst)(r:Nat.blt dst n=true)(I:bg C k l=some (.int .u32 x))(J:bg C k p=some (.int .u32 y))
  (h:WT C n ops rest ((dst,.int .u32 ((x*y % 4294967296:Nat):Int))::k) F own (λk2 P own2 rs=>Q k2 P own2 (⟨F,own,F,own,[]⟩::rs))):WT C n ops (o::rest) k F own Q:=
 WT.KT j hw i r I J (by{have hs:IntKind.u32.signed=false:=rfl;have g:IntKind.u32.bits=32:=rfl;simp only[fF,IntKind.wrap,hs,g,Bool.false_and];have:(2:Int) ^ 32=4294967296:=rfl;rw[this];simp}) (by simp) h
end
structure yJ(α:Type) where
 cell:α->Value
 one:∀x,Go.Abs.one (cell x)=true
 cells:∀x,(cell x).cells.toList=[cell x]
def CZ:yJ Nat:=⟨λx=>.int .u32 x,λ_=>rfl,λ_=>rfl⟩
def be:yJ Bool:=⟨λx=>.bool x,λ_=>rfl,λ_=>rfl⟩
inductive Rows{α:Type}(K:yJ α):List Value->List (Nat×aJ)->List (List α)->Prop
 | nil:Rows K [] [] []
 | cons {id c:Nat} {vs:List Value} {bs:List (Nat×aJ)} {row:List α} {rows:List (List α)}:(c=if row.length=0 then 0 else 1)->Rows K vs bs rows->
   Rows K (.slice (some ⟨id,0,none⟩) row.length c::vs) ((id,.cells false (row.map K.cell))::bs) (row::rows)
section
variable {α:Type}{K:yJ α}
theorem Rows.len{vs:List Value}{bs:List (Nat×aJ)}{rows:List (List α)}(h:Rows K vs bs rows):vs.length=rows.length/\bs.length=rows.length:=by
 induction h with| nil=>{simp}| cons _ _ g=>{simp[g]}
theorem Rows.at{vs:List Value}{bs:List (Nat×aJ)}{rows:List (List α)}(h:Rows K vs bs rows):∀(r:Nat) (row:List α),rows[r]?=some row->
  ∃id c,vs[r]?=some (.slice (some ⟨id,0,none⟩) row.length c)/\bs[r]?=some (id,.cells false (row.map K.cell))/\(c=if row.length=0 then 0 else 1):=by
 induction h with| nil=>{intro r row h;simp at h}| cons g _ i=>{intro r row h;cases r with| zero=>{simp at h;subst h;exact⟨_,_,rfl,rfl,g⟩}| succ r=>{exact i r row (by simpa using h)}}
theorem Rows.set{vs:List Value}{bs:List (Nat×aJ)}{rows:List (List α)}(h:Rows K vs bs rows):∀(r:Nat) (row row':List α) (id:Nat),rows[r]?=some row->row'.length=row.length->bs[r]?=some (id,.cells false (row.map K.cell))->
  Rows K vs (bs.set r (id,.cells false (row'.map K.cell))) (rows.set r row'):=by
 induction h with| nil=>{intro r row row' id h;simp at h}| cons j l o=>{intro r row row' id h g i;cases r with| zero=>{simp at h;subst h;simp at i;obtain⟨rfl,_⟩:=i;simp only[U7];rw[<-g];exact Rows.cons (by rw[g];exact j) l}| succ r=>{exact Rows.cons j (o r row row' id (by simpa using h) g (by simpa using i))}}
theorem Rows.snoc{vs:List Value}{bs:List (Nat×aJ)}{rows:List (List α)}(h:Rows K vs bs rows){id c:Nat}{row:List α}(i:c=if row.length=0 then 0 else 1) :
  Rows K (vs++[.slice (some ⟨id,0,none⟩) row.length c]) (bs++[(id,.cells false (row.map K.cell))]) (rows++[row]):=by
 induction h with| nil=>{exact Rows.cons i Rows.nil}| cons g _ j=>{exact Rows.cons g j}
theorem dC{R:Ty α}(hs:R.size=1)(g:∀F x,R.rel F [K.cell x] x){F:aA}{id c:Nat}{row:List α}(o:c=if row.length=0 then 0 else 1){ro:Bool}(r:F id=some (.cells ro (row.map K.cell))) :
  bk R F (some ⟨id,0,none⟩) row.length c row:=by
 refine⟨rfl,?_,?_,λh=>(by cases h),λp hp=>(by cases hp;rfl),λj x l=>?_⟩;{rw[hs,o];split<;>simp};{rw[o];split;{intro _;assumption};{intro h;cases h}};{refine⟨id,0,ro,_,[K.cell x],rfl,r,?_,g F x⟩;rw[hs,AI,Tp];unfold bO;have:((row.map K.cell).drop j).take 1=[K.cell x]:=by{have i:j<row.length:=(No.1 l).1;rw[Tl (by simpa using i)];rw[To i] at l;simp at l;simp[l]};rw[this];rfl}
theorem Rows.arr{R:Ty α}(hs:R.size=1)(g:∀F x,R.rel F [K.cell x] x){vs:List Value}{bs:List (Nat×aJ)}{rows:List (List α)}(h:Rows K vs bs rows){F:aA}(t:∀i b,(i,b)∈bs->F i=some b){o c:Nat}{ro:Bool}
  (r:c=if rows.length=0 then 0 else 1) (C:F o=some (.cells ro vs)):bk (bz R) F (some ⟨o,0,none⟩) rows.length c rows:=by
 refine⟨rfl,?_,?_,λh=>(by cases h),λp hp=>(by cases hp;rfl),λj x I=>?_⟩;{show c=0\/c=1;rw[r];split<;>simp};{rw[r];split;{intro _;assumption};{intro h;cases h}};{obtain⟨id,c2,h1,J,P⟩:=h.at j x I;refine⟨o,0,ro,vs,[_],rfl,C,?_,_,_,_,rfl,dC hs g P (t _ _ (Uj J))⟩;show bO vs (0+j*1) 1=_;rw[AI,Tp];unfold bO;have l:j<vs.length:=(No.1 h1).1;have:(vs.drop j).take 1=[.slice (some ⟨id,0,none⟩) x.length c2]:=by{rw[Tl l];rw[To l] at h1;simp at h1;simp[h1]};rw[this];rfl}
end
end Go.Abs
/-
 From a function's contract over the abstract machine to its calls in the model: arguments that are numbers and slices of numbers.
-/
set_option linter.unusedVariables false
namespace Go.Abs
open Go Go.ChangeShapes Go.WideShapes Go.RowKit
theorem Hd{σ:bD}:∀{v:Value},gQ v=true->aX σ v v
 | .int _ _,_=>rfl
 | .bool _,_=>rfl
 | .float ..,h=>by cases h
 | .complex ..,h=>by cases h
 | .string ..,h=>by cases h
 | .pointer ..,h=>by cases h
 | .slice ..,h=>by cases h
 | .map ..,h=>by cases h
 | .chan ..,h=>by cases h
 | .func ..,h=>by cases h
 | .nilFunc,h=>by cases h
 | .iface ..,h=>by cases h
 | .nilIface,h=>by cases h
 | .agg ..,h=>by cases h
 | .tuple ..,h=>by cases h
def dI:List (Nat×Loc)->Nat->Option Loc
 | [],_=>none
 | (i,l)::g,j=>if i=j then some l else dI g j
theorem k6:∀(a b:List (Nat×Loc)) (j:Nat),dI (a++b) j=match dI a j with | some l=>some l | none=>dI b j
 | [],b,j=>by simp[dI]
 | (i,l)::a,b,j=>by{simp only[TI,dI];split;{rfl};{exact k6 a b j}}
theorem J7{l:List (Nat×aJ)}(g:(l.map (·.1)).Nodup){i:Nat}{b:aJ}(h:(i,b)∈l):(iP l).get i=some b:=by
 induction l with| nil=>{cases h}| cons p l j=>{simp only[y2,TJ] at g;simp only[iP];rw[T.je];rcases PJ.1 h with rfl | h;{simp};{have:i≠p.1:=λe=>g.1 (e▸Ud h);rw[nw this];exact j g.2 h}}
theorem Bt{C:Ctx}{P:Program}(ok:C.Ok P)(ab:eE C P){f:FuncId}{aa vs:List Value}{blks:List (Nat×aJ)}{locs:List (Nat×Loc)}{nx:Nat}{W:World}
  (J:∀p∈blks,s5 p.2=true/\p.1<nx/\∃l,dI locs p.1=some l/\∀σ,om σ W l p.2)
  (ac:(blks.map (·.1)).Nodup) (t:∀g,g<C.cA->∃l,dI locs g=some l/\l.bQ=g/\l.off=0) (I:∀i,nx<=i->dI locs i=none)
  (ad:aV (dI locs) aa vs) (spec:∀F,(∀p∈blks,F p.1=some p.2)->Abs.Spec C f aa F [] λ_ v o=>o=[]/\v=.bool true) :
  Calls P f ⟨vs⟩ W λe w'=>e=.returned (.bool true)/\Below W.heap.size W w':=by
 have r:∀i b,(⟨nx,iP blks⟩:au).get i=some b->(i,b)∈blks:=λi b h=>qx blks i b h;have ae:St (⟨nx,iP blks⟩:au).get ([]++[]) ⟨nx,iP blks⟩:= ⟨λi b h=>h,λp hp=>(by cases hp),λp hp=>(by cases hp),UF,λi b h=>(J _ (r i b h)).2.1⟩;obtain⟨v,h',F',al,⟨m,hm⟩,_,_,_,rfl⟩:=spec (⟨nx,iP blks⟩:au).get (λp hp=>J7 ac hp) [] _ ae;have R:cM (dI locs) (⟨nx,iP blks⟩:au).get W:=by{constructor;{intro i b hi;obtain⟨_,_,l,h1,h2⟩:=J _ (r i b hi);exact⟨l,h1,h2 _⟩};{intro i j b c li lj hi hj _ U;rw[nD (J _ (r i b hi)).1,nD (J _ (r j c hj)).1] at U;simp at U}};refine((tH ok ab m).run f aa _ _ _ (hm m (mc _)) (λi b h=>(J _ (r i b h)).2.1) (dI locs) W vs t R ad (λi hi _=>I i hi)).mono ?_;rintro e w' ⟨v',ar,rfl,hv,hs,gY⟩;have hv:v'=.bool true:=hv;subst hv;exact⟨rfl,gY.below λi b h=>nD (J _ (r i b h)).1⟩
theorem Fg{W:World}{b off:Nat}{cs:List Value}(r:cs≠[])(C:∀j v,cs[j]?=some v->W.cell? ⟨b,off+j,none⟩=some v)(hw:cs.all gQ=true) :
  ∃l:Loc,l.bQ=b/\l.off=off/\off+cs.length<=l.size/\∀σ,om σ W l (.cells true cs):=by
 obtain⟨c,cs',rfl⟩:=List.exists_cons_of_ne_nil r;have t:=C 0 c rfl;unfold World.cell? at t;split at t;{rename_i arr ty fr I;have g:∀j v,(c::cs')[j]?=some v->arr[off+j]?=some v:=λj v p=>by{have:=C j v p;unfold World.cell? at this;simp only[I] at this;simpa using this};have hlen:off+(c::cs').length<=arr.size:=by{have:=g cs'.length ((c::cs')[cs'.length]'(by simp)) (To (by simp));have:=(Tr.1 this).1;simp;omega};have i:(arr.toList.drop off).take (c::cs').length=c::cs':=by{apply Tn;intro j;rw[Tv,Tu];split;{rename_i p;have:=g j ((c::cs')[j]) (To p);rw[To p,<-this];simp};{rename_i p;rw[zE (by omega)]}};refine⟨⟨b,off,arr.size⟩,rfl,rfl,hlen,λσ=>⟨arr,ty,fr,I,rfl,λh=>(by cases h),hlen,?_⟩⟩;have o:∀l:List Value,l.all gQ=true->aV σ l l:=by{intro l;induction l with| nil=>{intro _;rfl}| cons v l J=>{intro h;simp only[List.all_cons,tx] at h;exact⟨v,l,rfl,Hd h.1,J h.2⟩}};show aV σ (c::cs') ((arr.toList.drop off).take (c::cs').length);rw[i];exact o _ hw};{cases t}
def DY(i:TypeId)(F:aA):List TypeId->List Value->Prop
 | [],aa=>aa=[]
 | t::ts,aa=>∃a g,aa=a::g/\(if t=i then ∃n,a=.int .i64 n else ∃b m c l,a=.slice b m c/\bk dv F b m c l/\m<=9223372036854775807)/\DY i F ts g
section
variable {H:Type}{enc:TypeId×Value->H}{P:Program}{W:World}
theorem LQ{zs:List Int}{len:Nat}(o:len<=zs.length)(r:zs≠[]){k:Nat}{F:aA}(l:F k=some (.cells true (zs.map λn=>Value.int .i64 n))):bk dv F (some ⟨k,0,none⟩) len 1 (zs.take len):=by
 refine⟨by simp;omega,.inr rfl,λh=>(by cases h),λh=>(by cases h),λp hp=>(by cases hp;rfl),λj x g=>?_⟩;rw[Tv] at g;split at g;{refine⟨k,0,true,_,[.int .i64 x],rfl,l,?_,rfl⟩;show bO _ (0+j*1) 1=_;rw[AI,Tp];unfold bO;have i:j<zs.length:=(No.1 g).1;have:((zs.map λn=>Value.int .i64 n).drop j).take 1=[.int .i64 x]:=by{rw[Tl (by simpa using i)];rw[To i] at g;simp at g;simp[g]};rw[this];rfl};{cases g}
theorem Fm{tI tS:TypeId}(hI:P.underlying tI=some (.int .i64))(hS:P.underlying tS=some (.slice tI))(hc:P.cellsOf tI=1)(ag:tS≠tI){base:Nat} :
  ∀(ts:List TypeId) (vs:List Value) (ds:List (DataW H)) (ps:List MemPlace) (C:Nat),DataW.TrodAll enc P W 0 (λ_=>true) true ts vs ds ps->
  (∀(j:Nat) (t:TypeId) (v:Value),ts[j]?=some t->vs[j]?=some v->Value.okWide P W .any base t v)->(∀t∈ts,t=tI\/t=tS)->
  ∃(aa:List Value) (blks:List (Nat×aJ)) (locs:List (Nat×Loc)),(∀p∈blks,C<=p.1/\p.1<C+ts.length/\s5 p.2=true/\∃l,dI locs p.1=some l/\∀σ,om σ W l p.2)/\
   (∀i l,dI locs i=some l->C<=i/\i<C+ts.length)/\(blks.map (·.1)).Nodup/\(∀σ:bD,(∀i l,dI locs i=some l->σ i=some l)->aV σ aa vs)/\
   (∀F:aA,(∀p∈blks,F p.1=some p.2)->DY tI F ts aa)/\
   (∀W',Below W.heap.size W W'->∀sp:Nat->Bool,(∀p∈ps,sp p.block=true)->DataW.TrodAll enc P W' 0 sp true ts vs ds ps)
 | [],vs,ds,ps,C,h,_,_=>by{obtain⟨rfl,rfl,rfl⟩:=trodAll_nil h;exact⟨[],[],[],λp hp=>(by cases hp),λi l o=>(by cases o),UF,λσ _=>rfl,λF _=>rfl,λW' _ sp _=>rfl⟩}
 | t::ts,vs,ds,ps,C,h,a8,a9=>by{obtain⟨v,ba,d,bb,p,q,rfl,rfl,rfl,hd,a0⟩:=trodAll_cons h;obtain⟨aa,blks,locs,h1,h2,h3,h4,h5,h6⟩:=Fm hI hS hc ag ts ba bb q (C+1) a0 (λj t v hj hv=>a8 (j+1) t v (by simpa using hj) (by simpa using hv)) (λt ht=>a9 t (mb _ ht));have hv:=a8 0 t v rfl rfl;have g:∀j,C+1<=j->j<C+1+ts.length->C<=j/\j<C+(t::ts).length:=λj a b=>by{simp;omega};rcases a9 t (D2 ..) with rfl | rfl;{obtain⟨n,rfl,rfl,rfl,a2⟩:=open_int hI hv hd;refine⟨.int .i64 n::aa,blks,locs,λp hp=>?_,λi l o=>?_,h3,λσ I=>⟨_,_,rfl,rfl,h4 σ I⟩,λF hF=>⟨_,_,rfl,by rw[n0 rfl];exact⟨n,rfl⟩,h5 F hF⟩,λW' hW sp R=>?_⟩;{obtain⟨a,b,r⟩:=h1 p hp;exact⟨(g _ a b).1,(g _ a b).2,r⟩};{obtain⟨a,b⟩:=h2 i l o;exact g _ a b};{exact⟨[],q,shut_int hI a2,h6 W' hW sp (λp hp=>R p (by simpa using hp)),by simp⟩}};{obtain⟨av,len,cap,rfl⟩:=okWide_slice hS hv;obtain⟨fuel,hf⟩:=hd;rcases open_ints hS hI hc hf with ⟨e1,e2⟩ | ⟨a,ch,cj,zs,e1,hb,o,hm,hz,hx,U,a2⟩;{simp only[Value.cells,T1,Vs] at e1;cases e1;simp only[Tk] at e2;obtain⟨rfl,rfl⟩:=e2;refine⟨.slice none 0 0::aa,blks,locs,λp hp=>?_,λi l o=>?_,h3,λσ I=>⟨_,_,rfl,⟨rfl,rfl,rfl⟩,h4 σ I⟩,λF hF=>⟨_,_,rfl,by rw[nw ag];exact⟨none,0,0,[],rfl,bk.cK _ _,by decide⟩,h5 F hF⟩,λW' hW sp R=>?_⟩;{obtain⟨a,b,r⟩:=h1 p hp;exact⟨(g _ a b).1,(g _ a b).2,r⟩};{obtain⟨a,b⟩:=h2 i l o;exact g _ a b};{refine⟨[],q,⟨1,?_⟩,h6 W' hW sp (λp hp=>R p (by simpa using hp)),by simp⟩;rw[DataW.trod_step];unfold DataW.trodStep;simp[hS,Value.cells]}};{simp only[Value.cells,T1,Vs] at e1;cases e1;simp only[Tk] at hx;obtain⟨rfl,rfl⟩:=hx;simp only[TY] at hz;have ad:∀W',Below W.heap.size W W'->∀sp:Nat->Bool,(∀p∈MemPlace.row a zs.length++q,sp p.block=true)->DataW.TrodAll enc P W' 0 sp true (t::ts) (.slice (some a) len cap::ba) (.slice (lits .i64 (zs.take len)) (lits .i64 (zs.drop len))::bb) (MemPlace.row a zs.length++q):=by{intro W' hW sp R;refine⟨_,q,⟨2,?_⟩,h6 W' hW sp (λp hp=>R p (by simp[hp])),rfl⟩;have bd:zs.length=if sp a.block then cap else len:=by{rcases Ts cap with h0 | h0;{have:len=0:=by{omega};rw[hz,h0,this];split<;>rfl};{have:sp a.block=true:=by{have bf:MemPlace.cell a.block a.off∈MemPlace.row a zs.length:=by{unfold MemPlace.row;simp only[x6,Tz];exact⟨0,by omega,by simp⟩};exact R _ (Te _ bf)};rw[this,hz];rfl}};refine shut_ints 0 hS hI hc (If _) o hm bd (λi hi=>?_) a2;have h7:=U i hi;have hblk:(a.add i).block<W.heap.size:=by{unfold World.cell? at h7;split at h7;{rename_i hh;exact(Tr.1 hh).1};{cases h7}};rw[hW.cell hblk];exact h7};rcases Ts cap with h0 | h0;{have b5:len=0:=by{omega};subst h0;subst b5;refine⟨.slice (some ⟨C,0,none⟩) 0 0::aa,blks,(C,⟨a.block,0,0⟩)::locs,λp hp=>?_,λi l o=>?_,h3,λσ I=>⟨_,_,rfl,⟨⟨a.block,0,0⟩,a,0,I C _ (by simp[dI]),rfl,rfl,mc _,λ_=>rfl,λh=>absurd rfl h⟩,h4 σ λi l o=>I i l ?_⟩, λF hF=>⟨_,_,rfl,by rw[nw ag];exact⟨_,0,0,[],rfl,⟨rfl,.inl rfl,λ_=>rfl,λh=>(by cases h),λp hp=>(by cases hp;rfl),λj x hj=>(by simp at hj)⟩,by decide⟩,h5 F hF⟩,ad⟩;{obtain⟨a1,b1,r1,l,r2,r3⟩:=h1 p hp;refine⟨(g _ a1 b1).1,(g _ a1 b1).2,r1,l,?_,r3⟩;simp only[dI];rw[nw (by omega)];exact r2};{simp only[dI] at o;split at o;{rename_i e;subst e;simp};{obtain⟨a1,b1⟩:=h2 i l o;exact g _ a1 b1}};{have:=h2 i l o;simp only[dI];rw[nw (by omega)];exact o}};{have ay:zs≠[]:=by{intro e;subst e;simp at hz;omega};have J:a.spot=none:=by{have:=U 0 (by omega);unfold World.cell? at this;split at this;{split at this;{cases this};{rename_i hs;have bi:a.spot.isSome=false:=by{simpa [Addr.add] using hs};cases R:a.spot with| none=>{rfl}| some s=>{rw[R] at bi;cases bi}}};{cases this}};obtain⟨l0,b6,b7,b8,b9⟩:=Fg (W:=W) (b:=a.block) (off:=a.off) (cs:=zs.map λn=>Value.int .i64 n) (by simpa using ay) (λj v hj=>by{rw[zy] at hj;cases ar:zs[j]? with| none=>{rw[ar] at hj;cases hj}| some z=>{rw[ar] at hj;simp at hj;subst hj;have ca:j<zs.length:=(No.1 ar).1;have:=U j ca;rw[show a.add j=⟨a.block,a.off+j,none⟩ by{obtain⟨ab,ao,cx⟩:=a;simp only at J;subst J;exact add_plain ab ao j}] at this;rw[this];simp[List.getD,ar]}}) (by simp[gQ]);rw[tj] at b8;refine⟨.slice (some ⟨C,0,none⟩) len 1::aa,(C,.cells true (zs.map λn=>Value.int .i64 n))::blks,(C,l0)::locs,λp hp=>?_,λi l o=>?_,?_,λσ I=>⟨_,_,rfl,⟨l0,a,cap,I C _ (by simp[dI]),rfl,rfl,o,λh=>(by cases h),λ_=>⟨?_,?_⟩⟩,h4 σ λi l o=>I i l ?_⟩, λF hF=>⟨_,_,rfl,by rw[nw ag];exact⟨_,len,1,zs.take len,rfl,LQ (by omega) ay (hF (C,_) (D2 ..)),by unfold maxLen at hm;omega⟩,h5 F (λp hp=>hF p (mb _ hp))⟩,ad⟩;{rcases PJ.1 hp with rfl | hp;{exact⟨mc _,by simp,by simp[s5,gQ],l0,by simp[dI],b9⟩};{obtain⟨a1,b1,r1,l,r2,r3⟩:=h1 p hp;refine⟨(g _ a1 b1).1,(g _ a1 b1).2,r1,l,?_,r3⟩;simp only[dI];rw[nw (by omega)];exact r2}};{simp only[dI] at o;split at o;{rename_i e;subst e;simp};{obtain⟨a1,b1⟩:=h2 i l o;exact g _ a1 b1}};{simp only[y2,TJ];refine⟨λhm=>?_,h3⟩;obtain⟨p,hp,e⟩:=x6.1 hm;have:=(h1 p hp).1;omega};{rw[b6,b7];cases a;simp at J;subst J;rfl};{show l0.off+0+cap*1<=l0.size;omega};{have:=h2 i l o;simp only[dI];rw[nw (by omega)];exact o}}}}}
end
end Go.Abs
/-
 Calls that are lent one slot and handed another,or that give back a new slot;raw values;tables.
-/
set_option linter.unusedVariables false
namespace Go.Abs
open Go
section
variable {C:Ctx}{T:RT}{n:Nat}{k:ck}{F:aA}{own:bA}{ops rest:List Oper}{o:Oper}{Q:ck->aA->bA->List Rec->Prop}{α:Type}{R:Ty α}
theorem WT.Cp(p:Nat){f:FuncId}{fn:Func}{j:Array Operand}{ts:Array TypeId}{args:List Value}{B:List (Nat×aJ)}{P:Value->List (Nat×aJ)->Prop}(hf:C.func f=some fn)(hb:fn.body.isSome=true)(r:o.op=.call ⟨.value (.func f),j,ts⟩)
  (hw:aL ops k o=some true) {dst:Nat} (t:o.dst=some dst) (hn:Nat.blt dst n=true) (hv:dm (bg C k) j.toList=some args) (hp:own[p]?=some B)
  (spec:∀G,aA.le F G->(∀i b,(i,b)∈B->G i=some b)->Spec C f args G [] λ_ v o=>∃g,o=[g]/\P v g)
  (h:∀v g,P v g->WT C n ops rest ((dst,v)::k) F (g::own) (λk2 F2 own2 rs=>Q k2 F2 own2 (⟨F,own,F,g::own,[]⟩::rs))) :
  WT C n ops (o::rest) k F own Q:=by
 refine WT.step (l:=[]) (by rw[r];rfl) λe U hk hs=>?_;obtain⟨v,h1,F1,aa,⟨m,hd⟩,hF,I,o',rfl,g,rfl,J⟩:=Spec.I6 spec (own.eraseIdx p) U (hs.perm (bI hp));refine⟨v,h1,F,g::own,⟨m,λN hN=>?_⟩,aA.le.refl F,?_,by rw[t,aC hn];exact h v g J⟩;{unfold cq;rw[dS hk hw];have:aW C (bg C k) U o.op=some (.call f args):=by{rw[r];simp only[aW,bg,hv,mf,hf,hb,xf];simp};simp only[dP hk.eval this,hd N hN]};{refine(I.nZ hF).perm ((List.Perm.swap _ _ _).trans (List.Perm.cons g ?_));exact(bI hp).symm}
theorem WT.jY{f:FuncId}{fn:Func}{j:Array Operand}{ts:Array TypeId}{args:List Value}{P:aA->Value->List (Nat×aJ)->Prop}(t:C.func f=some fn)(I:fn.body.isSome=true)(p:o.op=.call ⟨.value (.func f),j,ts⟩)
  (hw:aL ops k o=some true) {dst:Nat} (l:o.dst=some dst) (J:Nat.blt dst n=true) (U:dm (bg C k) j.toList=some args)
  (spec:Spec C f args F [] λg v o=>∃i,o=[i]/\P g v i)
  (h:∀g v i,aA.le F g->P g v i->WT C n ops rest ((dst,v)::k) g (i::own) (λk2 F2 own2 rs=>Q k2 F2 own2 (⟨F,own,g,i::own,[]⟩::rs))) :
  WT C n ops (o::rest) k F own Q:=
 WT.wH t I p hw l J U spec (sh _) (λg v r hF hP=>by obtain⟨i,rfl,hp⟩:=hP;exact h g v i hF hp)
theorem WT.qV(p q:Nat){f:FuncId}{fn:Func}{j:Array Operand}{ts:Array TypeId}{args:List Value}{B D:List (Nat×aJ)}{fr:bA}{dx:List (Nat×aJ)->bA}{P:Value->List (Nat×aJ)->Prop}(hf:C.func f=some fn)(hb:fn.body.isSome=true)(r:o.op=.call ⟨.value (.func f),j,ts⟩)
  (hw:aL ops k o=some true) {dst:Nat} (t:o.dst=some dst) (hn:Nat.blt dst n=true) (hv:dm (bg C k) j.toList=some args) (hp:own.Perm (B::D::fr)) (I:∀g,(B::g::fr).Perm (dx g))
  (spec:∀G,aA.le F G->(∀i b,(i,b)∈B->G i=some b)->Spec C f args G [D] λ_ v o=>∃g,o=[g]/\P v g)
  (h:∀v g,P v g->WT C n ops rest ((dst,v)::k) F (dx g) (λk2 F2 own2 rs=>Q k2 F2 own2 (⟨F,own,F,dx g,[]⟩::rs))) :
  WT C n ops (o::rest) k F own Q:=by
 refine WT.step (l:=[]) (by rw[r];rfl) λe h' hk hs=>?_;obtain⟨v,h1,F1,ab,⟨m,hd⟩,hF,J,o',rfl,g,rfl,U⟩:=Spec.I6 spec fr h' (hs.perm hp);refine⟨v,h1,F,dx g,⟨m,λN hN=>?_⟩,aA.le.refl F,(J.nZ hF).perm (I g),by rw[t,aC hn];exact h v g U⟩;unfold cq;rw[dS hk hw];have:aW C (bg C k) h' o.op=some (.call f args):=by{rw[r];simp only[aW,bg,hv,mf,hf,hb,xf];simp};simp only[dP hk.eval this,hd N hN]
end
def AU:Ty Value where
 size:=1
 rel:=λ_ l x=>l=[x]/\Go.Abs.one x=true
 len:=λ_ _ _ h=>by rw[h.1];rfl
 one:=λ_ _ _ h=>by rw[h.1];simp[h.2]
 mono:=λ_ _ _ _ _ h=>h
theorem BE{F:aA}{cs vs:List Value}(h:aG AU F cs vs):cs=vs:=by
 induction h with| nil=>{rfl}| cons h1 _ g=>{rw[h1.1,g];rfl}
theorem oX{α:Type}(x:α)(a b c:List α):(x::(a++(b++c))).Perm (a++((b++[x])++c)):=by
 have h:=(U3 (a:=x) (l₁:=a++b) (l₂:=c)).symm;simpa using h
section
variable {α:Type}{K:yJ α}
def SN(M:List (List α))(i j:Nat)(x:α):List (List α):=match M[i]? with
 | some row=>M.set i (row.set j x)
 | none=>M
def Kv(M:List (List α))(i j:Nat):Option α:=match M[i]? with
 | some row=>row[j]?
 | none=>none
structure pD(n m:Nat)(M:List (List α)):Prop where
 size:M.length=n
 row:∀r∈M,r.length=m
end
end Go.Abs
namespace Go.Abs
theorem xl{α:Type}(z y:α)(S bs X own:List α)(h:bs.Perm (y::X)):(z::((S++bs)++own)).Perm (y::((S++X)++(z::own))):=by
 have h1:((S++bs)++own).Perm (y::((S++X)++own)):=by{have g:(S++bs).Perm (y::(S++X)):=(h.append_left S).trans U3;simpa using g.append_right own};have i:(z::((S++X)++own)).Perm ((S++X)++(z::own)):=U3.symm;exact(h1.cons z).trans ((List.Perm.swap y z _).trans (i.cons y))
theorem pD.setRow{α:Type}{n m:Nat}{M:List (List α)}(h:pD n m M)(i:Nat){row:List α}(g:row.length=m):pD n m (M.set i row):=by
 (refine⟨by simp[h.size],λr hm=>?_⟩;rcases Uq hm with hm | rfl);{exact h.row r hm};{exact g}
end Go.Abs
/-
 Maps of one's own;elements that are written whole;trees;calls that hand a slot over and freeze.
-/
set_option linter.unusedVariables false
namespace Go.Abs
open Go
def lF(T:RT)(ok:TypeId->Value->Bool):List (Nat×Nat)->List Value->Bool
 | [],_=>true
 | (off,g)::i,cs=>(match oK T cs g off with
  | some a=>ok g a
  | none=>false)&&lF T ok i cs
def O3(T:RT):Nat->TypeId->Value->Bool
 | 0,_,_=>false
 | n+1,t,v=>
  match rowOf T t with
  | some r=>match r.d,v with
   | .struct g,.agg ⟨cs⟩=>lF T (O3 T n) g cs
   | .int _,v=>!cm v
   | .bool,v=>!cm v
   | .string,v=>!cm v
   | _,_=>false
  | none=>false
section
variable {C:Ctx}{T:RT}(hT:aU C T=true)
include hT
theorem mA{Og g:TypeId->Value->Bool}(he:∀t v,Og t v=true->g t v=true):∀(i:List Field) (cs:List Value),lF T Og (i.map λf=>(f.offset,f.type)) cs=true->kZ C g i cs=true
 | [],_,_=>rfl
 | f::i,cs,q=>by{simp only[y2,lF,tx] at q;obtain⟨j,l⟩:=q;unfold kZ;rw[mA he i cs l,Vn];split at j;{rename_i a o;rw[aM hT o];exact he _ _ j};{cases j}}
theorem DG:∀(n:Nat) (t:TypeId) (v:Value),O3 T n t v=true->eD C n t v=true
 | 0,_,_,q=>by cases q
 | n+1,t,v,q=>by{unfold O3 at q;split at q;{rename_i r i;split at q;{rename_i o cs g;obtain⟨l,hu,j⟩:=gw hT i g;unfold eD;simp only[hu];rw[j] at q;exact mA hT (DG n) _ _ q};{rename_i k g;unfold eD;rw[uN hT i g];simpa [sC] using q};{rename_i g;unfold eD;rw[uA hT i g];simpa [sC] using q};{rename_i g;unfold eD;rw[nY hT i g];simpa [sC] using q};{cases q}};{cases q}}
theorem dN{t k e:Nat}{r:Row}(q:rowOf T t=some r)(i:r.d=.map k e):C.iL t=some (.map k e):=by
 (obtain⟨_,_,_,_,d,j,g⟩:=dL hT q;rw[i] at g;cases d<;>first | (cases g;done) | skip);simp only[kQ,tx] at g;rw[j,Mr g.1,Mr g.2]
end
structure qd(C:Ctx)(t:TypeId)(κ:Type) where
 key:κ->Value
 ok:∀k,eD C 8 t (key k)=true
 eq:∀a b,(a=b/\rD C 8 t (key a) (key b)=some true)\/(a≠b/\rD C 8 t (key a) (key b)=some false)
abbrev cd(κ:Type):=List (κ×Value)
def aP{C:Ctx}{t:TypeId}{κ:Type}(K:qd C t κ)(m:cd κ):List (Value×Value):=m.map λp=>(K.key p.1,p.2)
def look{κ:Type}[DecidableEq κ]:cd κ->κ->Option Value
 | [],_=>none
 | (k,v)::m,k2=>if k2=k then some v else look m k2
def cE{κ:Type}[DecidableEq κ]:cd κ->κ->Value->cd κ
 | [],k,v=>[(k,v)]
 | (g,v')::m,k,v=>if k=g then (g,v)::m else (g,v')::cE m k v
theorem fT{κ:Type}[DecidableEq κ](k k2:κ)(v:Value):∀m:cd κ,look (cE m k v) k2=if k2=k then some v else look m k2
 | []=>by simp only[cE,look]
 | (i,v')::m=>by{simp only[cE];by_cases h:k=i;{subst h;simp only[TY,look];by_cases g:k2=k<;>simp[g]};{simp only[h,Un,look,fT k k2 v m];by_cases g:k2=i;{subst g;have:¬k2=k:=λe=>h e.symm;simp[this]};{simp[g]}}}
section
variable {C:Ctx}{T:RT}{t:TypeId}{κ:Type}[DecidableEq κ](K:qd C t κ)
theorem fD(k:κ):∀(m:cd κ) (i:Nat),(look m k=none/\eY C t (K.key k) (aP K m) i=some none)\/
  ∃j v,look m k=some v/\eY C t (K.key k) (aP K m) i=some (some (i+j,v))/\(aP K m)[j]?=some (K.key k,v)/\∀v',(aP K m).set j (K.key k,v')=aP K (cE m k v')
 | [],i=>.inl ⟨rfl,rfl⟩
 | (o,v')::m,i=>by{rcases K.eq k o with ⟨rfl,h⟩ | ⟨g,h⟩;{refine .inr ⟨0,v',by simp[look],?_,rfl,λw=>by simp[aP,cE]⟩;simp only[aP,y2,eY,h];rfl};{rcases fD k m (i+1) with ⟨h1,l⟩ | ⟨j,v,h1,l,p,r⟩;{refine .inl ⟨by simp only[look];rw[nw g];exact h1,?_⟩;simp only[aP,y2,eY,h];exact l};{refine .inr ⟨j+1,v,by simp only[look];rw[nw g];exact h1,?_,p,λw=>?_⟩;{simp only[aP,y2,eY,h];rw[show i+(j+1)=i+1+j by omega];exact l};{have:=r w;simp only[aP] at this;simp only[aP,y2,Ux,cE,nw g,this]}}}}
theorem kY(k:κ)(v:Value):∀m:cd κ,look m k=none->aP K (cE m k v)=aP K m++[(K.key k,v)]
 | [],_=>rfl
 | (i,v')::m,h=>by{simp only[look] at h;split at h;{cases h};{rename_i g;have:=kY k v m h;simp only[aP] at this;simp only[cE,nw g,aP,y2,this];rfl}}
omit [DecidableEq κ] in
theorem fU(k:κ):cm (K.key k)=false:=oh (K.ok k)
omit [DecidableEq κ] in
theorem du:∀m:cd κ,alive (aP K m)=aP K m
 | []=>rfl
 | (k,v)::m=>by{have:=du m;simp only[aP] at this;simp only[aP,y2,alive,fU K k,zm,this]}
omit [DecidableEq κ] in
theorem jT(x:Value×Value):∀(m:cd κ) (j:Nat),aO x (aP K m) j=(aP K m).set j x
 | [],j=>by simp[aP,aO]
 | (k,v)::m,0=>by simp only[aP,y2,aO,fU K k,zm,U7]
 | (k,v)::m,j+1=>by{have:=jT x m j;simp only[aP] at this;simp only[aP,y2,aO,fU K k,zm,Ux,this]}
variable {n:Nat}{k:ck}{F:aA}{own:bA}{ops rest:List Oper}{o:Oper}{Q:ck->aA->bA->List Rec->Prop}
theorem WT.makeMap{p:TypeId}{d:Nat}(g:o.op=.makeMap p none)(hw:aL ops k o=some true)(j:o.dst=some d)(r:Nat.blt d n=true)
  (h:∀i,F i=none->WT C n ops rest ((d,.map (some i))::k) F ([(i,.map [])]::own) (λk2 I own2 rs=>Q k2 I own2 (⟨F,own,F,[(i,.map [])]::own,[]⟩::rs))):WT C n ops (o::rest) k F own Q:=by
 refine WT.new (mk:=λi=>.map (some i)) (l:=[]) hw (by rw[g];rfl) (λJ _=>?_) (λi hi=>by rw[j,aC r];exact h i hi);rw[g];rfl
theorem WT.N6(hT:aU C T=true)(p:Nat){tm et:TypeId}{mo ko:Operand}{i:Nat}{m:cd κ}{key:κ}{r:Row}{z:Value}{B:List (Nat×aJ)}{d:Nat}(l:o.op=.lookup tm mo ko true)(hw:aL ops k o=some true)(g:o.dst=some d)(hn:Nat.blt d n=true)
  (hm:bg C k mo=some (.map (some i))) (hk:bg C k ko=some (K.key key)) (hp:own[p]?=some B) (hq:(i,aJ.map (aP K m))∈B) (hr:rowOf T tm=some r) (hd:r.d=.map t et) (hz:gL T et=some z)
  (h1:∀v,look m key=some v->WT C n ops rest ((d,.tuple ⟨[v,.bool true]⟩)::k) F own (λk2 I own2 rs=>Q k2 I own2 (⟨F,own,F,own,[i]⟩::rs)))
  (h2:look m key=none->WT C n ops rest ((d,.tuple ⟨[z,.bool false]⟩)::k) F own (λk2 I own2 rs=>Q k2 I own2 (⟨F,own,F,own,[i]⟩::rs))):WT C n ops (o::rest) k F own Q:=by
 have hl:bl (bg C k) o.op=some [i]:=by{rw[l];simp only[bl,hm]};rcases fD K key m 0 with ⟨J,P⟩ | ⟨j,v,J,P,_,_⟩;{refine WT.still hw hl (λh0 R=>?_) (by rw[g,aC hn];exact h2 J);have U:=R.has hp hq;rw[l];simp only[aW,hm,hk,gZ,dN hT hr hd,gv,U,du K m,K.ok,P,cZ hT hz];rfl};{refine WT.still hw hl (λh0 R=>?_) (by rw[g,aC hn];exact h1 v J);have U:=R.has hp hq;rw[l];simp only[aW,hm,hk,gZ,dN hT hr hd,gv,U,du K m,K.ok,P];rfl}
theorem WT.oq(hT:aU C T=true)(p:Nat){P R:TypeId}{U ko:Operand}{i:Nat}{m:cd κ}{key:κ}{r:Row}{z:Value}{B:List (Nat×aJ)}{d:Nat}(g:o.op=.lookup P U ko false)(hw:aL ops k o=some true)(l:o.dst=some d)(hn:Nat.blt d n=true)
  (hm:bg C k U=some (.map (some i))) (hk:bg C k ko=some (K.key key)) (hp:own[p]?=some B) (hq:(i,aJ.map (aP K m))∈B) (hr:rowOf T P=some r) (hd:r.d=.map t R) (hz:gL T R=some z)
  (h1:WT C n ops rest ((d,(look m key).getD z)::k) F own (λk2 F2 own2 rs=>Q k2 F2 own2 (⟨F,own,F,own,[i]⟩::rs))):WT C n ops (o::rest) k F own Q:=by
 have hl:bl (bg C k) o.op=some [i]:=by{rw[g];simp only[bl,hm]};(refine WT.still hw hl (λh0 s0=>?_) (by rw[l,aC hn];exact h1);have hb:=s0.has hp hq;rw[g];rcases fD K key m 0 with ⟨I,J⟩ | ⟨j,v,I,J,_,_⟩);{simp only[aW,hm,hk,gZ,dN hT hr hd,gv,hb,du K m,K.ok,J,cZ hT hz,I];rfl};{simp only[aW,hm,hk,gZ,dN hT hr hd,gv,hb,du K m,K.ok,J,I];rfl}
theorem WT.Am(hT:aU C T=true)(p q:Nat){J et:TypeId}{P R U:Operand}{i:Nat}{m:cd κ}{key:κ}{v:Value}{r:Row}{B B':List (Nat×aJ)}{aY:bA}(g:o.op=.mapUpdate J P R U)(hw:aL ops k o=some true)(l:o.dst=none)
  (hm:bg C k P=some (.map (some i))) (hk:bg C k R=some (K.key key)) (hv:bg C k U=some v) (hp:own[p]?=some B) (hq:B[q]?=some (i,aJ.map (aP K m))) (hr:rowOf T J=some r) (hd:r.d=.map t et)
  (hB:xL B q (i,.map (aP K (cE m key v)))=some B') (ho:ku own p B'=some aY)
  (h:WT C n ops rest k F aY (λk2 F2 own2 rs=>Q k2 F2 own2 (⟨F,own,F,aY,[]⟩::rs))):WT C n ops (o::rest) k F own Q:=by
 (have e1:=gK _ _ _ _ hB;have e2:=cQ _ _ _ _ ho;subst e1;subst e2;refine WT.put (v:=bX) (b':=.map (aP K (cE m key v))) p q hp hq hw (by rw[g];rfl) (λh0 s0 hb=>?_) (by rw[l];exact h);rw[g];rcases fD K key m 0 with ⟨h3,I⟩ | ⟨j,v2,h3,I,h5,h6⟩);{simp only[aW,hm,hk,hv,cO,dN hT hr hd,hb,du K m,K.ok,I,kY K key v m h3];rfl};{simp only[aW,hm,hk,hv,cO,dN hT hr hd,hb,du K m,jT K,K.ok,I,AI,h5,eO,<-h6 v];rfl}
end
section
variable {C:Ctx}{T:RT}{n:Nat}{k:ck}{F:aA}{own:bA}{ops rest:List Oper}{o:Oper}{Q:ck->aA->bA->List Rec->Prop}{α:Type}{R:Ty α}
theorem WT.iA(p:Nat){f:FuncId}{fn:Func}{j:Array Operand}{ts:Array TypeId}{args:List Value}{B:List (Nat×aJ)}{up:List (Nat×aJ)->bA}{P:aA->Value->List (Nat×aJ)->Prop}(hf:C.func f=some fn)(hb:fn.body.isSome=true)(r:o.op=.call ⟨.value (.func f),j,ts⟩)
  (hw:aL ops k o=some true) {dst:Nat} (t:o.dst=some dst) (hn:Nat.blt dst n=true) (hv:dm (bg C k) j.toList=some args) (hp:own[p]?=some B) (I:∀g,ku own p g=some (up g))
  (spec:Spec C f args F [B] λi v o=>∃g,o=[g]/\P i v g)
  (h:∀i v g,aA.le F i->P i v g->WT C n ops rest ((dst,v)::k) i (up g) (λk2 F2 own2 rs=>Q k2 F2 own2 (⟨F,own,i,up g,[]⟩::rs))) :
  WT C n ops (o::rest) k F own Q:=by
 refine WT.step (l:=[]) (by rw[r];rfl) λe h' hk hs=>?_;obtain⟨v,h1,F1,ac,⟨m,hd⟩,hF,J,g,rfl,U⟩:=spec (own.eraseIdx p) h' (hs.perm (bI hp));have e1:=cQ _ _ _ _ (I g);refine⟨v,h1,F1,up g,⟨m,λN hN=>?_⟩,hF,?_,by rw[t,aC hn];exact h F1 v g hF U⟩;{unfold cq;rw[dS hk hw];have:aW C (bg C k) h' o.op=some (.call f args):=by{rw[r];simp only[aW,bg,hv,mf,hf,hb,xf];simp};simp only[dP hk.eval this,hd N hN]};{rw[<-e1];exact J.perm (fe g hp).symm}
end
end Go.Abs
/-
 Vectors: slices of one's own that keep their length,whose elements are read and written.
-/
set_option linter.unusedVariables false
namespace Go.Abs
open Go
structure mn{α:Type}(R:Ty α)(F:aA)(a:Option Addr)(n c:Nat)(B:List (Nat×aJ))(xs:List α):Prop where
 len:n=xs.length
 cap:c=0\/c=R.size
 zero:c=0->n=0
 nil:a=none->n=0/\c=0
 spot:∀p,a=some p->p.spot=none
 el:xs=[]\/∃i cs,a=some ⟨i,0,none⟩/\B=[(i,.cells false cs)]/\aG R F cs xs/\0<R.size
section
variable {α:Type}{R:Ty α}{F G:aA}{a:Option Addr}{n c:Nat}{B:List (Nat×aJ)}{xs:List α}
theorem mn.mono(h:mn R F a n c B xs)(g:aA.le F G):mn R G a n c B xs:=
 ⟨h.len,h.cap,h.zero,h.nil,h.spot,h.el.imp id λ⟨i,cs,h1,j,l,o⟩=>⟨i,cs,h1,j,l.mono g,o⟩⟩
theorem cb.vec(h:cb R F a n c B xs):mn R F a n c B xs:=by
 have g:=h.len;rcases h.at_ with ⟨rfl,rfl,rfl,rfl⟩ | ⟨i,cs,rfl,rfl,rfl,j,l⟩;{exact⟨g,.inl rfl,λ_=>g,λ_=>⟨g,rfl⟩,λp hp=>(by cases hp),.inl rfl⟩};{exact⟨g,.inr rfl,λh=>(by omega),λh=>(by cases h),λp hp=>(by cases hp;rfl),.inr ⟨i,cs,rfl,rfl,j,l⟩⟩}
theorem mn.arr(h:mn R F a n c B xs)(o:aA.le F G)(p:∀i b,(i,b)∈B->G i=some b):bk R G a n c xs:=by
 (refine⟨h.len,h.cap,h.zero,h.nil,h.spot,λj x g=>?_⟩;rcases h.el with rfl | ⟨i,cs,rfl,rfl,r,I⟩);{simp at g};{obtain⟨l,t,C⟩:=(r.mono o).at j x g;exact⟨i,0,false,cs,l,rfl,p i _ (D2 ..),by rw[AI];exact t,C⟩}
theorem mn.at_(h:mn R F a n c B xs){j:Nat}{x:α}(g:xs[j]?=some x):∃i cs,a=some ⟨i,0,none⟩/\B=[(i,.cells false cs)]/\aG R F cs xs/\0<R.size:=by
 rcases h.el with rfl | h;{simp at g};{exact h}
theorem mn.RY(h:mn R F a n c B xs)(g:xs≠[]):cb R F a n c B xs:=by
 rcases h.el with j | ⟨i,cs,h1,l,o,p⟩;{exact absurd j g};{refine⟨h.len,.inr ⟨i,cs,h1,?_,l,o,p⟩⟩;rcases h.cap with h5 | h5;{have:=h.zero h5;rw[h.len] at this;exact absurd (BY this) g};{exact h5}}
theorem aG.set{x y:α}{l:List Value}(p:R.rel F l y):∀{xs:List α} {cs:List Value} {j:Nat},aG R F cs xs->xs[j]?=some x->aG R F (bp cs (j*R.size) l) (xs.set j y)
 | [],cs,j,h,o=>by simp at o
 | z::xs,cs,0,h,o=>by{cases h with| cons h1 r=>{rename_i g i;have e:bp (g++i) (0*R.size) l=l++i:=by{unfold bp;rw[Wa,U4,Vb,AI,R.len _ _ _ p,<-R.len _ _ _ h1,List.drop_left]};rw[e];exact .cons p r}}
 | z::xs,cs,j+1,h,o=>by{cases h with| cons h1 r=>{rename_i g i;have C:=aG.set p (j:=j) r (by simpa using o);have e:bp (g++i) ((j+1)*R.size) l=g++bp i (j*R.size) l:=by{have t:=R.len _ _ _ h1;unfold bp;rw[show (j+1)*R.size=g.length+j*R.size by rw[t,TO];omega];rw[List.take_append,qs (show g.length<=g.length+j*R.size by omega),show g.length+j*R.size-g.length=j*R.size by omega, show g.length+j*R.size+l.length=g.length+(j*R.size+l.length) by omega,List.drop_append,TE (show g.length<=g.length+(j*R.size+l.length) by omega), show g.length+(j*R.size+l.length)-g.length=j*R.size+l.length by omega];simp};rw[e];exact .cons h1 C}}
theorem mn.set(h:mn R F a n c B xs){i:Nat}{cs:List Value}{j:Nat}{x y:α}{l:List Value}(r:B=[(i,.cells false cs)])(p:xs[j]?=some x)(t:R.rel F l y) :
  mn R F a n c [(i,.cells false (bp cs (j*R.size) l))] (xs.set j y):=by
 obtain⟨J,cs',h1,g,C,I⟩:=h.at_ p;rw[r] at g;injection g with g _;injection g with g o;injection o with _ o;subst g;subst o;exact⟨by rw[h.len];simp,h.cap,h.zero,h.nil,h.spot,.inr ⟨i,_,h1,rfl,C.set t p,I⟩⟩
theorem vZ{C:Ctx}{T:RT}(hT:aU C T=true){t off m:Nat}{r:Row}{cs l:List Value}(g:rowOf T t=some r)(i:r.d.agg=true)(hm:r.size=m)(hp:bO cs off m=some l):fN C cs t off=some (.agg ⟨l⟩):=by
 obtain⟨_,h1,_,_,d,j,o⟩:=dL hT g;unfold fN;rw[j];simp only[vN o,i,xf,h1,hm,hp];rfl
theorem BP{cs l:List Value}{off:Nat}{v:Value}(hp:bO cs off 1=some l)(i:l=[v]):cs[off]?=some v:=by
 subst i;unfold bO at hp;cases e:(((cs.drop off).take 1).length==1) with| false=>{simp only[e,zm] at hp;cases hp}| true=>{simp only[e,xf] at hp;have h:=aE hp;have:(cs.drop off)[0]?=some v:=by{cases g:cs.drop off with| nil=>{rw[g] at h;simp at h}| cons x xs=>{rw[g] at h;simp at h;simp[h]}};simpa using this}
end
section
variable {C:Ctx}{T:RT}{n:Nat}{k:ck}{F:aA}{own:bA}{ops rest:List Oper}{o:Oper}{Q:ck->aA->bA->List Rec->Prop}{α:Type}{R:Ty α}
theorem WT.HS(hT:aU C T=true){t e:Nat}{r:Row}{I io:Operand}{a:Option Addr}{m c:Nat}{B:List (Nat×aJ)}{xs:List α}{P:IntKind}{j:Nat}(J:mn R F a m c B xs)(l:o.op=.indexAddr t I io)(hw:aL ops k o=some true){dst:Nat}(g:o.dst=some dst)(U:Nat.blt dst n=true)
  (hx:bg C k I=some (.slice a m c)) (hi:bg C k io=some (.int P (j:Nat))) (hr:rowOf T t=some r) (hd:r.d=.slice e) (hs:ef T e=some R.size) (hj:j<m)
  (h:∀b,a=some ⟨b,0,none⟩->WT C n ops rest ((dst,.pointer (some ⟨b,j*R.size,none⟩))::k) F own (λk2 F2 own2 rs=>Q k2 F2 own2 (⟨F,own,F,own,[]⟩::rs))):WT C n ops (o::rest) k F own Q:=by
 have hl:=J.len;obtain⟨x,p⟩:∃x,xs[j]?=some x:=⟨_,To (by omega)⟩;obtain⟨i,cs,rfl,rfl,h3,h4⟩:=J.at_ p;refine WT.cH hT l hw g U hx hi hr hd hs hj ?_;rw[AI];exact h i rfl
theorem WT.EO(hT:aU C T=true)(p:Nat){t:TypeId}{P:Operand}{a:Option Addr}{m c j b:Nat}{B:List (Nat×aJ)}{xs:List α}{x:α}{r:Row}(hv:mn R F a m c B xs)(ha:a=some ⟨b,0,none⟩)(U:xs[j]?=some x)(I:o.op=.load t P)(hw:aL ops k o=some true){dst:Nat}(g:o.dst=some dst)(hn:Nat.blt dst n=true)
  (J:bg C k P=some (.pointer (some ⟨b,j*R.size,none⟩))) (hp:own[p]?=some B) (hr:rowOf T t=some r) (hd:r.d.agg=true) (hs:r.size=R.size)
  (h:∀l,R.rel F l x->WT C n ops rest ((dst,.agg ⟨l⟩)::k) F own (λk2 F2 own2 rs=>Q k2 F2 own2 (⟨F,own,F,own,[b]⟩::rs))):WT C n ops (o::rest) k F own Q:=by
 obtain⟨i,cs,h1,rfl,h3,h4⟩:=hv.at_ U;rw[ha] at h1;injection h1 with h1;injection h1 with h1;subst h1;obtain⟨l,h5,h6⟩:=h3.at j x U;exact WT.uj p I hw J hp (D2 ..) (vZ hT hr hd hs h5) (by rw[g,aC hn];exact h l h6)
theorem WT.S3(hT:aU C T=true)(p:Nat){t:TypeId}{ao x:Operand}{a:Option Addr}{m c j b:Nat}{B:List (Nat×aJ)}{dx:List (Nat×aJ)->bA}{xs:List α}{z y:α}{v:Value}(hv:mn R F a m c B xs)(ha:a=some ⟨b,0,none⟩)(J:xs[j]?=some z)(P:o.op=.store t ao x)(hw:aL ops k o=some true)(hd:o.dst=none)
  (U:bg C k ao=some (.pointer (some ⟨b,j*R.size,none⟩))) (hx:bg C k x=some v) (hy:R.rel F v.cells.toList y) (hp:own[p]?=some B) (r:∀l,ku own p l=some (dx l)) (hm:ef T t=some R.size)
  (h:∀l,mn R F a m c l (xs.set j y)->WT C n ops rest k F (dx l) (λk2 F2 own2 rs=>Q k2 F2 own2 (⟨F,own,F,dx l,[b]⟩::rs))) :
  WT C n ops (o::rest) k F own Q:=by
 obtain⟨i,cs,h1,h2,h3,h4⟩:=hv.at_ J;have g:=h1;rw[ha] at g;injection g with g;injection g with g;subst g;have I:=hv.set h2 J hy;subst h2;have ab:=(No.1 J).1;have ac:=h3.len;have hmul:j*R.size+R.size<=cs.length:=by{rw[ac,<-Vx];exact TG _ ab};refine WT.store (C:=C) (n:=n) (k:=k) (F:=F) (Q:=Q) (rest:=rest) (ops:=ops) p 0 P hw U hx hp rfl (bS hT hm) (R.len _ _ _ hy) (R.one _ _ _ hy) hmul ?_;rw[hd];have e:=cQ _ _ _ _ (r [(b,.cells false (bp cs (j*R.size) v.cells.toList))]);simp only[U7];rw[e];exact h _ I
end
end Go.Abs
/-
 Slices compared with nil,appended to an empty literal,copied into own blocks;numbers of 64 bits without sign.
-/
set_option linter.unusedVariables false
namespace Go.Abs
open Go
section
variable {C:Ctx}{T:RT}{n:Nat}{k:ck}{F:aA}{own:bA}{ops rest:List Oper}{o:Oper}{Q:ck->aA->bA->List Rec->Prop}{α:Type}{R:Ty α}
theorem WT.nj(hT:aU C T=true){t ty:TypeId}{j l:Operand}{a:Option Addr}{m c e:Nat}{r:Row}(g:o.op=.binOp .eql t j l ty)(hw:aL ops k o=some true){dst:Nat}(i:o.dst=some dst)(J:Nat.blt dst n=true)
  (p:bg C k j=some (.slice a m c)) (I:bg C k l=some (.slice none 0 0)) (P:rowOf T t=some r) (U:r.d=.slice e)
  (h:WT C n ops rest ((dst,.bool a.isNone)::k) F own (λk2 F2 own2 rs=>Q k2 F2 own2 (⟨F,own,F,own,[]⟩::rs))):WT C n ops (o::rest) k F own Q:=by
 refine WT.still hw (by rw[g];simp only[bl,p,I];rfl) (λh0 _=>?_) (by rw[i,aC J];exact h);rw[g];have hu:=bP hT P U;cases a<;>simp only[aW,p,I,mw,jH,xf,equalA,hu]<;>rfl
theorem iC(hT:aU C T=true){t e:Nat}{r:Row}(q:rowOf T t=some r)(i:r.d=.pointer e):C.iL t=some (.pointer e):=by
 (obtain⟨_,_,_,_,d,j,g⟩:=dL hT q;rw[i] at g;cases d<;>simp only[kQ] at g<;>try (exact absurd g (by decide)));rw[j,Mr g]
theorem WT.tL(hT:aU C T=true){p0:Addr}{d by_:Nat}{ys:List α}{U:List Value}{t e:Nat}{ts:List TypeId}{r:Row}{z x:Value}{xo so:Operand}
  (av:p0.spot=none) (aa:o.op=.call ⟨.builtin .append,⟨[so,xo]⟩,⟨t::ts⟩⟩) (hw:aL ops k o=some true) {dst:Nat} (I:o.dst=some dst) (hn:Nat.blt dst n=true)
  (hs:bg C k so=some (.slice (some p0) 0 0)) (hx:bg C k xo=some x) (hr:rowOf T t=some r) (hd:r.d=.slice e) (ad:ef T e=some R.size) (hz:gL T e=some z) (ae:nF T e=some by_)
  (J:∀h,St F own h->kD C h e R.size ts.head? x=some (d,U)) (ab:aG R F U ys) (hlen:d=ys.length) (g:0<R.size/\0<by_) (ac:d*by_<=140737488355328)
  (h:∀a' c' B',mn R F a' d c' B' ys->(ys=[]->a'=some p0)->WT C n ops rest ((dst,(.slice a' d c'))::k) F (B'::own) (λk2 F2 own2 rs=>Q k2 F2 own2 (⟨F,own,F,B'::own,[]⟩::rs))) :
  WT C n ops (o::rest) k F own Q:=by
 obtain⟨b0,P,a0⟩:=p0;have:a0=none:=av;subst this;have hl:bl (bg C k) o.op=some []:=by{rw[aa];rfl};have hv:dm (bg C k) [so,xo]=some [.slice (some ⟨b0,P,none⟩) 0 0,x]:=by{simp[dm,hs,hx]};have j:(!(U.length==d*R.size&&U.all one&&Nat.blt 0 R.size&&Nat.blt 0 by_&&Nat.ble ((0+d)*by_) 140737488355328))=false:=by{have h1:(U.length==d*R.size)=true:=by{rw[ab.len,hlen];simp};have h2:Nat.blt 0 R.size=true:=Tj g.1;have h3:Nat.blt 0 by_=true:=Tj g.2;have h4:Nat.ble ((0+d)*by_) 140737488355328=true:=Tj (by rw[AI];exact ac);rw[h1,h2,h3,h4,ab.one];rfl};by_cases af:d=0;{subst af;have a1:ys=[]:=BY hlen.symm;subst a1;refine WT.step (l:=[]) hl λe0 h0 hk ag=>⟨.slice (some ⟨b0,P,none⟩) 0 0,h0,F,[]::own,⟨0,λN _=>?_⟩,aA.le.refl F,ag.le (ah.flat (sh _)),by{rw[I,aC hn];exact h _ _ [] ⟨rfl,.inl rfl,λ_=>rfl,λh=>(by cases h),λp hp=>(by cases hp;rfl),.inl rfl⟩ (λ_=>rfl)}⟩;refine gT hk hw ?_ _;rw[aa];simp only[aW,hv,bR,gg,bP hT hr hd,bS hT ad,cZ hT hz,fV hT ae,J h0 ag,j,zm];simp};{have a2:(d==0)=false:=by{simpa using af};refine WT.new (mk:=λi=>.slice (some ⟨i,0,none⟩) d R.size) (b:=.cells false U) hw hl (λh0 s0=>?_) (λi hi=>?_);{rw[aa];simp only[aW,hv,bR,gg,bP hT hr hd,bS hT ad,cZ hT hz,fV hT ae,J h0 s0,j,a2,zm];simp};{rw[I,aC hn];refine h _ _ _ ⟨hlen,.inr rfl,λh=>?_,λh=>(by cases h),λp hp=>(by cases hp;rfl),.inr ⟨i,U,rfl,rfl,ab,g.1⟩⟩ (λh=>?_);{have:=g.1;omega};{subst h;simp at hlen;omega}}}
theorem KC{F:aA}{a:Option Addr}{n c:Nat}{xs:List α}(I:bk R F a n c xs)(hn:0<n) :
  ∃b off ro cs j,a=some ⟨b,off,none⟩/\F b=some (.cells ro cs)/\bO cs off (n*R.size)=some j/\aG R F j xs:=by
 have g:∀{cs:List Value} {off n:Nat} {l:List Value},bO cs off n=some l->l=(cs.drop off).take n/\l.length=n:=by{intro cs off n l h;unfold bO at h;cases e:(((cs.drop off).take n).length==n) with| false=>{simp only[e,zm] at h;cases h}| true=>{simp only[e,xf] at h;obtain rfl:=aE h;exact⟨rfl,eq_of_beq e⟩}};have i:∀{cs:List Value} {off n m:Nat} {p r:List Value},bO cs off n=some p->bO cs (off+n) m=some r->bO cs off (n+m)=some (p++r):=by{intro cs off n m p r h1 t;obtain⟨e1,k1⟩:=g h1;obtain⟨e2,k2⟩:=g t;have e:(cs.drop off).take (n+m)=p++r:=by{rw[List.take_add,Vw,<-e1,<-e2]};unfold bO;simp only[e];have:((p++r).length==n+m)=true:=by{simp[k1,k2]};rw[this];rfl};have hl:=I.len;obtain⟨x0,h0⟩:∃x,xs[0]?=some x:=⟨_,To (by omega)⟩;obtain⟨b,off,ro,cs,l,h1,t,h3,h4⟩:=I.el 0 x0 h0;have main:∀k,k<=xs.length->0<k->∃j,bO cs off (k*R.size)=some j/\aG R F j (xs.take k):=by{intro k;induction k with| zero=>{intro _ h;omega}| succ k ih=>{intro hk _;obtain⟨y,hy⟩:∃x,xs[k]?=some x:=⟨_,To (by omega)⟩;obtain⟨b',ab,ar,cs',l',g1,g2,g3,g4⟩:=I.el k y hy;rw[h1] at g1;injection g1 with g1;injection g1 with g1 J;subst g1;subst J;rw[t] at g2;injection g2 with g2;injection g2 with g2 P;subst P;have ht:xs.take (k+1)=xs.take k++[y]:=by{rw[yo,hy];rfl};rw[ht];by_cases U:k=0;{subst U;exact⟨l',by simpa using g3,by simpa using aG.single g4⟩};{obtain⟨j,d1,d2⟩:=ih (by omega) (by omega);exact⟨j++l',by rw[TO,Uu];exact i d1 g3,d2.append (aG.single g4)⟩}}};obtain⟨j,d1,d2⟩:=main n (by omega) hn;rw[hl,Uo] at d2;exact⟨b,off,ro,cs,j,h1,t,d1,d2⟩
theorem nE(hT:aU C T=true){a:Option Addr}{m c t I:Nat}{r:Row}{xs:List α}(i:bk R F a m c xs)(j:rowOf T t=some r)(l:r.d=.slice I)(e:TypeId) :
  ∃g,(∀(own:bA) h,St F own h->kD C h e R.size (some t) (.slice a m c)=some (m,g))/\aG R F g xs:=by
 by_cases hm:m=0;{subst hm;have:xs=[]:=BY i.len.symm;subst this;refine⟨[],λown h s=>?_,.nil⟩;cases a with| none=>{simp only[kD,bP hT j l,fG,kj,jf];rfl}| some p=>{obtain⟨b,off,J⟩:=p;have:J=none:=i.spot _ rfl;subst this;simp only[kD,bP hT j l,fG,kj,jf];rfl}};{obtain⟨b,off,ro,cs,g,rfl,P,U,h4⟩:=KC i (by omega);refine⟨g,λown h s=>?_,h4⟩;have hb:=s.Bl _ _ P;simp only[kD,bP hT j l,fG,kj,jf,kO,hb,U,show (m==0)=false by simpa using hm];rfl}
end
end Go.Abs
/-
 Numbers of 64 bits without sign;copies into own blocks.
-/
set_option linter.unusedVariables false
namespace Go.Abs
open Go
theorem xS{x:Int}(h:0<=x/\x<18446744073709551616):IntKind.u64.wrap x=x:=by
 unfold IntKind.wrap;have hs:IntKind.u64.signed=false:=rfl;have g:IntKind.u64.bits=64:=rfl;have:(2:Int) ^ 64=18446744073709551616:=rfl;simp only[hs,g,Bool.false_and,this];exact VT h.1 h.2
section
variable {C:Ctx}{T:RT}{n:Nat}{k:ck}{F:aA}{own:bA}{ops rest:List Oper}{o:Oper}{Q:ck->aA->bA->List Rec->Prop}{α:Type}{R:Ty α}
theorem WT.Qg{op:BinOp}{t ty:TypeId}{p r:Operand}{j:IntKind}{x y:Int}{v:Value}(l:o.op=.binOp op t p r ty)(hw:aL ops k o=some true){dst:Nat}(i:o.dst=some dst)(I:Nat.blt dst n=true)(J:bg C k p=some (.int j x))(P:bg C k r=some (.int j y))
  (g:op≠.shl/\op≠.shr) (U:fF op j x y=some v)
  (h:WT C n ops rest ((dst,v)::k) F own (λk2 F2 own2 rs=>Q k2 F2 own2 (⟨F,own,F,own,[]⟩::rs))):WT C n ops (o::rest) k F own Q:=by
 refine WT.bin l hw J P ?_ g (by rw[i,aC I];exact h);cases op<;>first | exact absurd rfl g.1 | exact absurd rfl g.2 | (simp only[mw,TY];exact U)
theorem WT.Q0{op:BinOp}{t ty:TypeId}{I J:Operand}{P p:IntKind}{x y:Int}{v:Value}(g:o.op=.binOp op t I J ty)(hw:aL ops k o=some true){dst:Nat}(i:o.dst=some dst)(hn:Nat.blt dst n=true)(U:bg C k I=some (.int P x))(hy:bg C k J=some (.int p y))
  (r:op=.shl\/op=.shr) (hr:mF op P x y=some v)
  (h:WT C n ops rest ((dst,v)::k) F own (λk2 F2 own2 rs=>Q k2 F2 own2 (⟨F,own,F,own,[]⟩::rs))):WT C n ops (o::rest) k F own Q:=by
 have j:∀v,((dst,v)::k:ck)=ew n k o.dst v:=λv=>by{rw[i,aC hn]};rw[j] at h;refine WT.still (l:=[]) hw (by rw[g];simp only[bl,U,hy];rfl) (λh0 _=>?_) h;rw[g];rcases r with rfl | rfl<;>simp only[aW,U,hy,mw,hr]<;>rfl
theorem IC{x y:Nat}(g:y<=64):mF .shr .u64 x y=some (.int .u64 ((x / 2 ^ y:Nat):Int)):=by
 have i:IntKind.u64.bits=64:=rfl;unfold mF;rw[nw (by omega)];simp only[i,Vu,Ul g];congr 2;rw[Int.natCast_ediv,Int.natCast_pow];exact Int.fdiv_eq_ediv_of_nonneg _ (Int.pow_nonneg (by decide))
end
end Go.Abs
namespace Go.Abs
open Go
theorem wB{C:Ctx}{T:RT}(hT:aU C T=true){t e s:Nat}{r:Row}(j:rowOf T t=some r)(l:r.d=.slice e)(hs:ef T e=some s){b off len c lo hi:Nat}{vlo vhi:Option Value}(h1:di vlo 0=some lo)(o:di vhi len=some hi)(g:lo<=hi)(i:hi<=len)(p:c=0\/c=s)(h:au) :
  ik C h t (.slice (some ⟨b,off,none⟩) len c) vlo vhi none=some (.slice (some ⟨b,off+lo*s,none⟩) (hi-lo) c):=by
 have I:Nat.ble lo hi=true:=Tj g;have J:Nat.ble hi len=true:=Tj i;have P:(c==0||c==s)=true:=by{rcases p with rfl | rfl<;>simp};simp only[ik,bP hT j l,bS hT hs,h1,o,I,J,P,Uh,xf]
end Go.Abs
namespace Go.Abs
open Go
def SF{S:Type}(g:S->ck)(k:ck)(l:S->bA)(P:S->aA->Prop)(A:Ex->ck->aA->bA->Prop):Ex->ck->aA->bA->Prop
 | .normal,i,j,aY=>∃s,jd (g s++k) i/\ah (l s) aY/\P s j
 | x,i,j,aY=>A x i j aY
theorem AW.Q1{C:Ctx}{n:Nat}{k:ck}{F:aA}{own:bA}{A:Ex->ck->aA->bA->Prop}{S:Type}(i:S->ck)(l:S->bA)(P:S->aA->Prop){a b:Code}(h1:AW C n a k F own (SF i k l P A))
  (p:∀s g,aA.le F g->P s g->AW C n b (i s++k) g (l s) A):AW C n a k F own (xj (λo g aY=>AW C n b o g aY A) A):=
 AW.mono h1 λx o g aY r j=>by
 cases x with| normal=>{obtain⟨s,t,I,J⟩:=j;exact AW.weaken t (AW.le I (p s g r J))}| exit id=>{exact j}| ret=>{exact j}| jN=>{exact j}
end Go.Abs
/-
 Clearing a part of an own block;cells split in two.
-/
set_option linter.unusedVariables false
namespace Go.Abs
open Go
section
variable {α:Type}{R:Ty α}{F:aA}
theorem aG.split:∀{xs ys:List α} {cs:List Value},aG R F cs (xs++ys)->∃g c2,cs=g++c2/\aG R F g xs/\aG R F c2 ys
 | [],ys,cs,h=>⟨[],cs,rfl,.nil,h⟩
 | x::xs,ys,cs,h=>by{cases h with| cons h1 i=>{rename_i l j;obtain⟨g,c2,rfl,o,p⟩:=aG.split (xs:=xs) i;exact⟨l++g,c2,by simp,.cons h1 o,p⟩}}
theorem aG.rows{l:List Value}{x:α}(h:R.rel F l x):∀n,aG R F (dH l n) (List.replicate n x)
 | 0=>.nil
 | n+1=>.cons h (aG.rows h n)
theorem aG.RQ{l:List Value}{x:α}(h:R.rel F l x){xs:List α}{cs:List Value}(j:aG R F cs xs){i n:Nat}(hi:i+n=xs.length) :
  aG R F (bp cs (i*R.size) (dH l n)) (xs.take i++List.replicate n x):=by
 rw[<-Ut i xs] at j;obtain⟨g,c2,rfl,h1,p⟩:=j.split;have r:=h1.len;have t:=p.len;have o:=(aG.rows (n:=n) h).len;rw[TU] at o;have C:g.length=i*R.size:=by{rw[r,Tg,Ul (by omega)]};have e:bp (g++c2) (i*R.size) (dH l n)=g++dH l n:=by{unfold bp;rw[<-C,VO,TE];{simp};{rw[sj,t,o,Vh];have:xs.length-i=n:=by{omega};rw[this];omega}};rw[e];exact h1.append (aG.rows h n)
end
section
variable {C:Ctx}{T:RT}{n:Nat}{k:ck}{F:aA}{own:bA}{ops rest:List Oper}{o:Oper}{Q:ck->aA->bA->List Rec->Prop}{α:Type}{R:Ty α}
theorem WT.O1(hT:aU C T=true)(p:Nat){t e:Nat}{ts:List TypeId}{r:Row}{xo:Operand}{a:Option Addr}{b m c c2 i l:Nat}{B:List (Nat×aJ)}{dx:List (Nat×aJ)->bA}{xs:List α}{x0:α}{z:Value}(J:mn R F a m c B xs)(ha:a=some ⟨b,0,none⟩)(U:o.op=.call ⟨.builtin .clear,⟨[xo]⟩,⟨t::ts⟩⟩)(hw:aL ops k o=some true)(aa:o.dst=none)
  (hx:bg C k xo=some (.slice (some ⟨b,0+i*R.size,none⟩) l c2)) (hr:rowOf T t=some r) (af:r.d=.slice e) (hz:gL T e=some z) (j:R.rel F z.cells.toList x0) (hl:i+l=m) (av:0<l) (hp:own[p]?=some B) (ab:∀P,ku own p P=some (dx P))
  (h:∀P,mn R F a m c P (xs.take i++List.replicate l x0)->WT C n ops rest k F (dx P) (λk2 F2 own2 rs=>Q k2 F2 own2 (⟨F,own,F,dx P,[]⟩::rs))):WT C n ops (o::rest) k F own Q:=by
 have hlen:=J.len;obtain⟨x,ag⟩:∃x,xs[0]?=some x:=⟨_,To (by omega)⟩;obtain⟨i',cs,h1,rfl,h3,h4⟩:=J.at_ ag;rw[ha] at h1;injection h1 with h1;injection h1 with h1;subst h1;have al:bl (bg C k) o.op=some []:=by{rw[U];rfl};have an:dm (bg C k) [xo]=some [.slice (some ⟨b,0+i*R.size,none⟩) l c2]:=by{simp[dm,hx]};have I:=h3.RQ j (i:=i) (n:=l) (by omega);have ac:=(aG.rows (n:=l) j).len;rw[TU] at ac;have ao:=h3.len;have g:(0+i*R.size)+(dH z.cells.toList l).length<=cs.length:=by{rw[ac,ao,<-hlen,<-hl,TO];omega};have e2:=cQ _ _ _ _ (ab [(b,.cells false (bp cs (i*R.size) (dH z.cells.toList l)))]);refine WT.step (l:=[]) al λe0 h0 hk ad=>?_;have hb:=ad.has hp (D2 ..);refine⟨bX,h0.put b (some (.cells false (bp cs (i*R.size) (dH z.cells.toList l)))),F,dx [(b,.cells false (bp cs (i*R.size) (dH z.cells.toList l)))],⟨0,λN _=>?_⟩,aA.le.refl F,?_,?_⟩;{refine gT hk hw ?_ _;rw[U];have h5:(dH z.cells.toList l).all one=true:=(aG.rows j l).one;have h6:Nat.ble (i*R.size+(dH z.cells.toList l).length) cs.length=true:=Tj (by rw[AI] at g;exact g);cases l with| zero=>{omega}| succ l=>{simp only[aW,an,bR,pI,bP hT hr af,cZ hT hz,hb,AI,h5,h6,Uh,xf];rfl}};{have:=ad.put hp (q:=0) rfl (.cells false (bp cs (i*R.size) (dH z.cells.toList l)));simp only[U7] at this;rw[e2] at this;exact this};{rw[aa];exact h _ ⟨by simp;omega,J.cap,J.zero,J.nil,J.spot,.inr ⟨b,_,ha,rfl,I,h4⟩⟩}
end
end Go.Abs
/-
 Vectors inside a greater slot: read where they lie.
-/
set_option linter.unusedVariables false
namespace Go.Abs
open Go
section
variable {C:Ctx}{T:RT}{n:Nat}{k:ck}{F:aA}{own:bA}{ops rest:List Oper}{o:Oper}{Q:ck->aA->bA->List Rec->Prop}{α:Type}{R:Ty α}
end
theorem yw:∀(n:Nat) (l:List Nat),l.Nodup->(∀x∈l,x<n)->l.length<=n
 | 0,l,_,h=>by{cases l with| nil=>{simp}| cons x l=>{exact absurd (h x (D2 ..)) (T6 _)}}
 | n+1,l,g,h=>by{have h1:=yw n (l.erase n) (g.erase n) (λx i=>by{have j:=h x (List.mem_of_mem_erase i);have o:x≠n:=by{rintro rfl;exact(List.Nodup.not_mem_erase g) i};omega});rw[List.length_erase] at h1;split at h1<;>omega}
end Go.Abs
/-
 Sums and differences of naturals.
-/
set_option linter.unusedVariables false
namespace Go.Abs
open Go
section
variable {C:Ctx}{n:Nat}{k:ck}{F:aA}{own:bA}{ops rest:List Oper}{o:Oper}{Q:ck->aA->bA->List Rec->Prop}
theorem WT.RD{d:Nat}{t ty:TypeId}{i j:Operand}{x:Nat}(g:o.op=.binOp .add t i j ty)(hw:aL ops k o=some true)(l:o.dst=some d)(p:Nat.blt d n=true)(r:bg C k i=some (.int .i64 (x:Nat)))(I:bg C k j=some (.int .i64 1))(P:x<=9223372036854775806)
  (h:WT C n ops rest ((d,.int .i64 ((x+1:Nat):Int))::k) F own (λk2 J own2 rs=>Q k2 J own2 (⟨F,own,F,own,[]⟩::rs))):WT C n ops (o::rest) k F own Q:=
 WT.Pb g hw l p r I (by omega) (by rw[Int.natCast_add] at h;exact h)
theorem WT.Rr{d:Nat}{t ty:TypeId}{i j:Operand}{x y:Nat}(g:o.op=.binOp .add t i j ty)(hw:aL ops k o=some true)(l:o.dst=some d)(p:Nat.blt d n=true)(r:bg C k i=some (.int .i64 (x:Nat)))(I:bg C k j=some (.int .i64 (y:Nat)))(P:x+y<=9223372036854775807)
  (h:WT C n ops rest ((d,.int .i64 ((x+y:Nat):Int))::k) F own (λk2 J own2 rs=>Q k2 J own2 (⟨F,own,F,own,[]⟩::rs))):WT C n ops (o::rest) k F own Q:=
 WT.Pb g hw l p r I (by omega) (by rw[Int.natCast_add] at h;exact h)
theorem WT.RN{d:Nat}{t ty:TypeId}{i j:Operand}{x:Nat}(g:o.op=.binOp .sub t i j ty)(hw:aL ops k o=some true)(l:o.dst=some d)(p:Nat.blt d n=true)(r:bg C k i=some (.int .i64 (x:Nat)))(I:bg C k j=some (.int .i64 1))(P:1<=x/\x<=9223372036854775807)
  (h:WT C n ops rest ((d,.int .i64 ((x-1:Nat):Int))::k) F own (λk2 J own2 rs=>Q k2 J own2 (⟨F,own,F,own,[]⟩::rs))):WT C n ops (o::rest) k F own Q:=
 WT.O5 g hw l p r I (by omega) (by rw[show ((x-1:Nat):Int)=(x:Int)-1 by omega] at h;exact h)
theorem WT.Ry{d:Nat}{t ty:TypeId}{i j:Operand}{x y:Nat}(g:o.op=.binOp .sub t i j ty)(hw:aL ops k o=some true)(l:o.dst=some d)(p:Nat.blt d n=true)(r:bg C k i=some (.int .i64 (x:Nat)))(I:bg C k j=some (.int .i64 (y:Nat)))(P:y<=x/\x<=9223372036854775807)
  (h:WT C n ops rest ((d,.int .i64 ((x-y:Nat):Int))::k) F own (λk2 J own2 rs=>Q k2 J own2 (⟨F,own,F,own,[]⟩::rs))):WT C n ops (o::rest) k F own Q:=
 WT.O5 g hw l p r I (by omega) (by rw[show ((x-y:Nat):Int)=(x:Int)-(y:Int) by omega] at h;exact h)
theorem WT.RM{d:Nat}{t ty:TypeId}{i j:Operand}{x:Nat}(g:o.op=.binOp .mul t i j ty)(hw:aL ops k o=some true)(l:o.dst=some d)(p:Nat.blt d n=true)(r:bg C k i=some (.int .i64 2))(I:bg C k j=some (.int .i64 (x:Nat)))(P:2*x<=9223372036854775807)
  (h:WT C n ops rest ((d,.int .i64 ((2*x:Nat):Int))::k) F own (λk2 J own2 rs=>Q k2 J own2 (⟨F,own,F,own,[]⟩::rs))):WT C n ops (o::rest) k F own Q:=
 WT.OD g hw l p r I (by omega) (by rw[Vo] at h;exact h)
theorem WT.mulL(l:Nat){d:Nat}{t ty:TypeId}{i j:Operand}{x:Nat}(g:o.op=.binOp .mul t i j ty)(hw:aL ops k o=some true)(p:o.dst=some d)(r:Nat.blt d n=true)(I:bg C k i=some (.int .i64 (x:Nat)))(J:bg C k j=some (.int .i64 (l:Nat)))(R:x*l<=9223372036854775807)
  (h:WT C n ops rest ((d,.int .i64 ((x*l:Nat):Int))::k) F own (λk2 P own2 rs=>Q k2 P own2 (⟨F,own,F,own,[]⟩::rs))):WT C n ops (o::rest) k F own Q:=
 WT.OD g hw p r I J (by rw[<-Vo];omega) (by rw[Vo] at h;exact h)
theorem WT.RG(l:Nat){d:Nat}{t ty:TypeId}{i j:Operand}{x:Nat}(g:o.op=.binOp .quo t i j ty)(hw:aL ops k o=some true)(I:o.dst=some d)(J:Nat.blt d n=true)(P:bg C k i=some (.int .i64 (x:Nat)))(R:bg C k j=some (.int .i64 (l:Nat)))(hl:0<l)(hb:x<=9223372036854775807)
  (h:WT C n ops rest ((d,.int .i64 ((x / l:Nat):Int))::k) F own (λk2 U own2 rs=>Q k2 U own2 (⟨F,own,F,own,[]⟩::rs))):WT C n ops (o::rest) k F own Q:=by
 have h1:x / l<=x:=Wd _ _;have p:Int.tdiv (x:Int) (l:Int)=((x / l:Nat):Int):=by{rw[Int.tdiv_eq_ediv_of_nonneg (by omega),Int.natCast_ediv]};generalize x / l=q at h1 p h;refine WT.bin (r:=.int .i64 (q:Int)) g hw P R ?_ (by simp) (by rw[I,aC J];exact h);simp only[mw,TY,fF];rw[nw (by omega),p,wrap64 (by omega)]
end
end Go.Abs
/-
 A whole element that lies in a frozen block is read.
-/
set_option linter.unusedVariables false
namespace Go.Abs
open Go
section
variable {C:Ctx}{T:RT}{n:Nat}{k:ck}{F:aA}{own:bA}{ops rest:List Oper}{o:Oper}{Q:ck->aA->bA->List Rec->Prop}
theorem WT.QM(hT:aU C T=true){t:TypeId}{j:Operand}{b off m:Nat}{ro:Bool}{cs l:List Value}{r:Row}(p:F b=some (.cells ro cs))(hp:bO cs off m=some l)(i:o.op=.load t j)(hw:aL ops k o=some true){dst:Nat}(g:o.dst=some dst)(I:Nat.blt dst n=true)
  (J:bg C k j=some (.pointer (some ⟨b,off,none⟩))) (P:rowOf T t=some r) (R:r.d.agg=true) (hm:r.size=m)
  (h:WT C n ops rest ((dst,.agg ⟨l⟩)::k) F own (λk2 U own2 rs=>Q k2 U own2 (⟨F,own,F,own,[b]⟩::rs))):WT C n ops (o::rest) k F own Q:=
 WT.xY i hw J p (vZ hT P R hm hp) (by rw[g,aC I];exact h)
end
end Go.Abs
/-
 A byte of a string that stands in the text.
-/
set_option linter.unusedVariables false
namespace Go.Abs
open Go
section
variable {C:Ctx}{T:RT}{n:Nat}{k:ck}{F:aA}{own:bA}{ops rest:List Oper}{o:Oper}{Q:ck->aA->bA->List Rec->Prop}
end
end Go.Abs
/-
 The lesser of two numbers;slices that lie at the beginning of a longer block of one's own.
-/
set_option linter.unusedVariables false
namespace Go.Abs
open Go
structure RJ{α:Type}(R:Ty α)(F:aA)(b m:Nat)(B:List (Nat×aJ))(xs:List α):Prop where
 len:m=xs.length
 pos:0<R.size
 bQ:∃cs dy,B=[(b,.cells false cs)]/\bO cs 0 (m*R.size)=some dy/\aG R F dy xs
section
variable {α:Type}{R:Ty α}{F G:aA}{b m:Nat}{B:List (Nat×aJ)}{xs:List α}
theorem MD{cs l:List Value}{off n:Nat}(h:bO cs off n=some l):l=(cs.drop off).take n/\l.length=n:=by
 unfold bO at h;cases e:(((cs.drop off).take n).length==n) with| false=>{simp only[e,zm] at h;cases h}| true=>{simp only[e,xf] at h;obtain rfl:=aE h;exact⟨rfl,eq_of_beq e⟩}
theorem o6{cs l:List Value}{off n:Nat}(h:l=(cs.drop off).take n)(g:l.length=n):bO cs off n=some l:=by
 unfold bO;rw[<-h];show (bif l.length==n then some l else none)=some l;rw[g];simp
end
section
variable {C:Ctx}{T:RT}{n:Nat}{k:ck}{F:aA}{own:bA}{ops rest:List Oper}{o:Oper}{Q:ck->aA->bA->List Rec->Prop}{α:Type}{R:Ty α}
theorem WT.PV{ts:List TypeId}{t:TypeId}{j p:Operand}{x y:Nat}(g:o.op=.call ⟨.builtin .min,⟨[j,p]⟩,⟨t::ts⟩⟩)(hw:aL ops k o=some true){dst:Nat}(i:o.dst=some dst)(r:Nat.blt dst n=true)
  (I:bg C k j=some (.int .i64 (x:Nat))) (J:bg C k p=some (.int .i64 (y:Nat)))
  (h:WT C n ops rest ((dst,.int .i64 ((Nat.min x y:Nat):Int))::k) F own (λk2 P own2 rs=>Q k2 P own2 (⟨F,own,F,own,[]⟩::rs))):WT C n ops (o::rest) k F own Q:=by
 refine WT.still (l:=[]) hw (by rw[g];rfl) (λh0 _=>?_) (by rw[i,aC r];exact h);rw[g];have U:dm (bg C k) [j,p]=some [.int .i64 (x:Nat),.int .i64 (y:Nat)]:=by{simp[dm,I,J]};have e:(if (y:Int)<x then (y:Int) else x)=((Nat.min x y:Nat):Int):=by{have:Nat.min x y=min x y:=rfl;rw[this];split<;>omega};simp only[aW,U,bR,e];rfl
end
end Go.Abs
/-
 Appending to a vector;calls of function values that are handed a slot.
-/
set_option linter.unusedVariables false
namespace Go.Abs
open Go
section
variable {C:Ctx}{T:RT}{n:Nat}{k:ck}{F:aA}{own:bA}{ops rest:List Oper}{o:Oper}{Q:ck->aA->bA->List Rec->Prop}{α:Type}{R:Ty α}
theorem WT.Lu(hT:aU C T=true){p0:Addr}{d by_:Nat}{ys:List α}{U:List Value}{t e:Nat}{ts:List TypeId}{r:Row}{z x:Value}{xo so:Operand}
  (av:p0.spot=none) (aa:o.op=.call ⟨.builtin .append,⟨[so,xo]⟩,⟨t::ts⟩⟩) (hw:aL ops k o=some true) {dst:Nat} (I:o.dst=some dst) (hn:Nat.blt dst n=true)
  (hs:bg C k so=some (.slice (some p0) 0 0)) (hx:bg C k xo=some x) (hr:rowOf T t=some r) (hd:r.d=.slice e) (ad:ef T e=some R.size) (hz:gL T e=some z) (ae:nF T e=some by_)
  (J:∀h,St F own h->kD C h e R.size ts.head? x=some (d,U)) (ab:aG R F U ys) (hlen:d=ys.length) (g:0<R.size/\0<by_) (ac:d*by_<=140737488355328)
  (h:∀a' c' B',mn R F a' d c' B' ys->(ys=[]->c'=0)->WT C n ops rest ((dst,(.slice a' d c'))::k) F (B'::own) (λk2 F2 own2 rs=>Q k2 F2 own2 (⟨F,own,F,B'::own,[]⟩::rs))) :
  WT C n ops (o::rest) k F own Q:=by
 obtain⟨b0,P,a0⟩:=p0;have:a0=none:=av;subst this;have hl:bl (bg C k) o.op=some []:=by{rw[aa];rfl};have hv:dm (bg C k) [so,xo]=some [.slice (some ⟨b0,P,none⟩) 0 0,x]:=by{simp[dm,hs,hx]};have j:(!(U.length==d*R.size&&U.all one&&Nat.blt 0 R.size&&Nat.blt 0 by_&&Nat.ble ((0+d)*by_) 140737488355328))=false:=by{have h1:(U.length==d*R.size)=true:=by{rw[ab.len,hlen];simp};have h2:Nat.blt 0 R.size=true:=Tj g.1;have h3:Nat.blt 0 by_=true:=Tj g.2;have h4:Nat.ble ((0+d)*by_) 140737488355328=true:=Tj (by rw[AI];exact ac);rw[h1,h2,h3,h4,ab.one];rfl};by_cases af:d=0;{subst af;have a1:ys=[]:=BY hlen.symm;subst a1;refine WT.step (l:=[]) hl λe0 h0 hk ag=>⟨.slice (some ⟨b0,P,none⟩) 0 0,h0,F,[]::own,⟨0,λN _=>?_⟩,aA.le.refl F,ag.le (ah.flat (sh _)),by{rw[I,aC hn];exact h _ _ [] ⟨rfl,.inl rfl,λ_=>rfl,λh=>(by cases h),λp hp=>(by cases hp;rfl),.inl rfl⟩ (λ_=>rfl)}⟩;refine gT hk hw ?_ _;rw[aa];simp only[aW,hv,bR,gg,bP hT hr hd,bS hT ad,cZ hT hz,fV hT ae,J h0 ag,j,zm];simp};{have a2:(d==0)=false:=by{simpa using af};refine WT.new (mk:=λi=>.slice (some ⟨i,0,none⟩) d R.size) (b:=.cells false U) hw hl (λh0 s0=>?_) (λi hi=>?_);{rw[aa];simp only[aW,hv,bR,gg,bP hT hr hd,bS hT ad,cZ hT hz,fV hT ae,J h0 s0,j,a2,zm];simp};{rw[I,aC hn];refine h _ _ _ ⟨hlen,.inr rfl,λh=>?_,λh=>(by cases h),λp hp=>(by cases hp;rfl),.inr ⟨i,U,rfl,rfl,ab,g.1⟩⟩ (λh=>?_);{have:=g.1;omega};{subst h;simp at hlen;omega}}}
theorem ah.Qa{X B:List (Nat×aJ)}{p:Nat}(hp:own[p]?=some B):ah (own.set p X) (X::own):=by
 have h1:ah (X::own.eraseIdx p) (X::own):=ah.cons _ (ah.sub (List.eraseIdx_sublist _ _));exact ah.trans (ah.perm (fe X hp).symm) h1
theorem WT.M0(hT:aU C T=true)(p:Nat){B:List (Nat×aJ)}{dx:List (Nat×aJ)->bA}{a:Option Addr}{m c d by_:Nat}{xs ys:List α}{J:List Value}{t e:Nat}{ts:List TypeId}{r:Row}{z x:Value}{xo so:Operand}
  (hb:mn R F a m c B xs) (hc:xs=[]->c=0) (hp:own[p]?=some B) (U:∀B',ku own p B'=some (dx B')) (ab:o.op=.call ⟨.builtin .append,⟨[so,xo]⟩,⟨t::ts⟩⟩) (hw:aL ops k o=some true) {dst:Nat} (aa:o.dst=some dst) (hn:Nat.blt dst n=true)
  (hs:bg C k so=some (.slice a m c)) (hx:bg C k xo=some x) (hr:rowOf T t=some r) (hd:r.d=.slice e) (ac:ef T e=some R.size) (hz:gL T e=some z) (ad:nF T e=some by_)
  (i:∀h,St F own h->kD C h e R.size ts.head? x=some (d,J)) (P:aG R F J ys) (hlen:d=ys.length) (g:0<d/\0<R.size/\0<by_) (j:(m+d)*by_<=140737488355328)
  (h:∀a' c' B',cb R F a' (m+d) c' B' (xs++ys)->WT C n ops rest ((dst,.slice a' (m+d) c')::k) F (dx B') (λk2 F2 own2 rs=>Q k2 F2 own2 (⟨F,own,F,dx B',[]⟩::rs))) :
  WT C n ops (o::rest) k F own Q:=by
 by_cases al:xs=[];{subst al;obtain rfl:=hc rfl;have hm:m=0:=hb.len;subst hm;have hl:bl (bg C k) o.op=some []:=by{rw[ab];rfl};have I:(!(J.length==d*R.size&&J.all one&&Nat.blt 0 R.size&&Nat.blt 0 by_&&Nat.ble ((0+d)*by_) 140737488355328))=false:=by{have h1:(J.length==d*R.size)=true:=by{rw[P.len,hlen];simp};have h2:Nat.blt 0 R.size=true:=Tj g.2.1;have h3:Nat.blt 0 by_=true:=Tj g.2.2;have h4:Nat.ble ((0+d)*by_) 140737488355328=true:=Tj j;rw[h1,h2,h3,h4,P.one];rfl};have an:(d==0)=false:=by{have:=g.1;cases d with | zero=>omega | succ d=>rfl};have hv:dm (bg C k) [so,xo]=some [.slice a 0 0,x]:=by{simp[dm,hs,hx]};refine WT.step (l:=[]) hl λe0 h0 hk af=>?_;obtain⟨s1,s2,s3⟩:=af.alloc (.cells false J);have e1:=cQ _ _ _ _ (U [(h0.next,.cells false J)]);refine⟨.slice (some ⟨h0.next,0,none⟩) (0+d) R.size,h0.alloc (.cells false J),F,dx [(h0.next,.cells false J)],⟨0,λN _=>?_⟩,aA.le.refl F,?_,?_⟩;{refine gT hk hw ?_ _;rw[ab];cases a with| none=>{simp only[aW,hv,bR,gg,bP hT hr hd,bS hT ac,cZ hT hz,fV hT ad,i h0 af,I,an,zm];simp}| some q=>{obtain⟨b0,a7,a1⟩:=q;have:a1=none:=hb.spot _ rfl;subst this;simp only[aW,hv,bR,gg,bP hT hr hd,bS hT ac,cZ hT hz,fV hT ad,i h0 af,I,an,zm];simp}};{rw[<-e1];exact s1.le (ah.Qa hp)};{rw[aa,aC hn];exact h _ _ _ ⟨by simp;exact hlen,.inr ⟨h0.next,J,rfl,rfl,rfl,by simpa using P,g.2.1⟩⟩}};{exact WT.aZ hT p (hb.RY al) hp U ab hw aa hn hs hx hr hd ac hz ad i P hlen g j h}
theorem WT.qP(p:Nat){f:FuncId}{fn:Func}{fo:Operand}{r:Array Operand}{ts:Array TypeId}{args args' first capt:List Value}{B:List (Nat×aJ)}{up:List (Nat×aJ)->bA}{P:aA->Value->List (Nat×aJ)->Prop}(hf:C.func f=some fn)(hb:fn.body.isSome=true)(t:o.op=.call ⟨.value fo,r,ts⟩)
  (hw:aL ops k o=some true) {dst:Nat} (I:o.dst=some dst) (hn:Nat.blt dst n=true) (U:bg C k fo=some (.func (.func f) ⟨first⟩ ⟨capt⟩)) (hv:dm (bg C k) r.toList=some args) (i:first++args++capt=args') (hp:own[p]?=some B) (J:∀g,ku own p g=some (up g))
  (spec:Spec C f args' F [B] λj v o=>∃g,o=[g]/\P j v g)
  (h:∀j v g,aA.le F j->P j v g->WT C n ops rest ((dst,v)::k) j (up g) (λk2 F2 own2 rs=>Q k2 F2 own2 (⟨F,own,j,up g,[]⟩::rs))) :
  WT C n ops (o::rest) k F own Q:=by
 subst i;refine WT.step (l:=[]) (by rw[t];rfl) λe h' hk hs=>?_;obtain⟨v,h1,F1,ae,⟨m,hd⟩,hF,aa,g,rfl,ab⟩:=spec (own.eraseIdx p) h' (hs.perm (bI hp));have e1:=cQ _ _ _ _ (J g);refine⟨v,h1,F1,up g,⟨m,λN hN=>?_⟩,hF,?_,by rw[I,aC hn];exact h F1 v g hF ab⟩;{unfold cq;rw[dS hk hw];have:aW C (bg C k) h' o.op=some (.call f (first++args++capt)):=by{rw[t];simp only[aW,U,hv,sq hf hb]};simp only[dP hk.eval this,hd N hN]};{rw[<-e1];exact aa.perm (fe g hp).symm}
end
end Go.Abs
/-
 Entries of map literals.
-/
set_option linter.unusedVariables false
namespace Go.Abs
open Go
section
variable {C:Ctx}{T:RT}{t:TypeId}{κ:Type}[DecidableEq κ](K:qd C t κ)
variable {n:Nat}{k:ck}{F:aA}{own:bA}{ops rest:List Oper}{o:Oper}{Q:ck->aA->bA->List Rec->Prop}
theorem WT.Lq(hT:aU C T=true)(p q:Nat){J et:TypeId}{P R U:Operand}{i:Nat}{m:cd κ}{key:κ}{v:Value}{r:Row}{B B':List (Nat×aJ)}{aY:bA}(g:o.op=.insert J P R U)(hw:aL ops k o=some true)(l:o.dst=none)
  (hm:bg C k P=some (.map (some i))) (hk:bg C k R=some (K.key key)) (hv:bg C k U=some v) (hp:own[p]?=some B) (hq:B[q]?=some (i,aJ.map (aP K m))) (hr:rowOf T J=some r) (hd:r.d=.map t et)
  (hB:xL B q (i,.map (aP K (cE m key v)))=some B') (ho:ku own p B'=some aY)
  (h:WT C n ops rest k F aY (λk2 F2 own2 rs=>Q k2 F2 own2 (⟨F,own,F,aY,[]⟩::rs))):WT C n ops (o::rest) k F own Q:=by
 (have e1:=gK _ _ _ _ hB;have e2:=cQ _ _ _ _ ho;subst e1;subst e2;refine WT.put (v:=bX) (b':=.map (aP K (cE m key v))) p q hp hq hw (by rw[g];rfl) (λh0 s0 hb=>?_) (by rw[l];exact h);rw[g];rcases fD K key m 0 with ⟨h3,I⟩ | ⟨j,v2,h3,I,h5,h6⟩);{simp only[aW,hm,hk,hv,cO,dN hT hr hd,hb,du K m,K.ok,I,kY K key v m h3];rfl};{simp only[aW,hm,hk,hv,cO,dN hT hr hd,hb,du K m,jT K,K.ok,I,AI,h5,eO,<-h6 v];rfl}
end
end Go.Abs
/-
 Method calls,interfaces,addresses held against each other;maps with marks of what was deleted;own slices at the beginning of a longer block.
-/
set_option linter.unusedVariables false
namespace Go.Abs
open Go
structure GB{α:Type}(R:Ty α)(F:aA)(a:Option Addr)(n c:Nat)(B:List (Nat×aJ))(xs:List α):Prop where
 len:n=xs.length
 at_:(xs=[]/\a=none/\c=0/\B=[])\/∃i cs rest,a=some ⟨i,0,none⟩/\c=R.size/\B=[(i,.cells false (cs++rest))]/\aG R F cs xs/\0<R.size
section
variable {α:Type}{R:Ty α}{F G:aA}{a:Option Addr}{n c:Nat}{B:List (Nat×aJ)}{xs:List α}
theorem cb.gb(h:cb R F a n c B xs):GB R F a n c B xs:=
 ⟨h.len,h.at_.imp id λ⟨i,cs,h1,g,j,l,o⟩=>⟨i,cs,[],h1,g,by rw[Tx];exact j,l,o⟩⟩
theorem GB.mono(h:GB R F a n c B xs)(g:aA.le F G):GB R G a n c B xs:=
 ⟨h.len,h.at_.imp id λ⟨i,cs,rest,h1,j,l,o,p⟩=>⟨i,cs,rest,h1,j,l,o.mono g,p⟩⟩
theorem aG.take{cs:List Value}{xs:List α}(h:aG R F cs xs):∀k,k<=xs.length->aG R F (cs.take (k*R.size)) (xs.take k):=by
 induction h with| nil=>{intro k hk;simp;exact .nil}| @cons l cs x xs h1 j g=>{intro k hk;cases k with| zero=>{simp;exact .nil}| succ k=>{have i:=R.len _ _ _ h1;have e:(l++cs).take ((k+1)*R.size)=l++cs.take (k*R.size):=by{rw[show (k+1)*R.size=l.length+k*R.size by rw[i,TO];omega,List.take_append,qs (by omega)];congr 1;congr 1;omega};rw[e,List.take_succ_cons];exact .cons h1 (g k (by simpa using hk))}}
theorem GB.take(h:GB R F a n c B xs){k:Nat}(hk:k<=n):GB R F a k c B (xs.take k):=by
 have p:=h.len;refine⟨by simp;omega,?_⟩;rcases h.at_ with ⟨rfl,g,j,l⟩ | ⟨i,cs,rest,h1,g,j,l,o⟩;{exact .inl ⟨by simp,g,j,l⟩};{refine .inr ⟨i,cs.take (k*R.size),cs.drop (k*R.size)++rest,h1,g,?_,l.take k (by omega),o⟩;rw[<-By,Ut];exact j}
theorem vA{cs rest:List Value}{off n:Nat}{l:List Value}(h:bO cs off n=some l):bO (cs++rest) off n=some l:=by
 obtain⟨h1,g⟩:=MD h;refine o6 ?_ g;rcases Ts n with h0 | h0;{subst h0;rw[h1];simp};{have:off+n<=cs.length:=by{have:=congrArg List.length h1;rw[g] at this;simp at this;omega};rw[List.drop_append_of_le_length (by omega),T4 (by simp;omega)];exact h1}
theorem GB.arr(h:GB R F a n c B xs)(o:aA.le F G)(r:∀i b,(i,b)∈B->G i=some b):bk R G a n c xs:=by
 have g:=h.len;rcases h.at_ with ⟨rfl,rfl,rfl,rfl⟩ | ⟨i,cs,rest,rfl,rfl,rfl,t,P⟩;{have:n=0:=g;subst this;exact bk.cK R G};{refine⟨g,.inr rfl,λh=>(by omega),λh=>(by cases h),λp hp=>(by cases hp;rfl),λj x C=>?_⟩;obtain⟨l,I,J⟩:=(t.mono o).at j x C;exact⟨i,0,false,cs++rest,l,rfl,r i _ (D2 ..),by rw[AI];exact vA I,J⟩}
theorem GB.Ra{i:Nat}(h:GB R F (some ⟨i,0,none⟩) n c B xs):RJ R F i n B xs/\c=R.size:=by
 have g:=h.len;rcases h.at_ with ⟨_,l,_,_⟩ | ⟨j,cs,rest,h1,l,p,o,r⟩;{cases l};{cases h1;refine⟨⟨g,r,cs++rest,cs,p,?_,o⟩,l⟩;have:=o.len;refine o6 ?_ (by rw[this,<-g]);rw[Vg,T4 (by rw[this,<-g];exact mc _),qs (by rw[this,<-g];exact mc _)]}
end
section
variable {C:Ctx}{T:RT}{n:Nat}{k:ck}{F:aA}{own:bA}{ops rest:List Oper}{o:Oper}{Q:ck->aA->bA->List Rec->Prop}{α:Type}{R:Ty α}
theorem WT.lY(hT:aU C T=true)(p:Nat){B:List (Nat×aJ)}{dx:List (Nat×aJ)->bA}{a:Option Addr}{m c d by_:Nat}{xs ys:List α}{ds:List Value}{t e:Nat}{ts:List TypeId}{r:Row}{z x:Value}{xo so:Operand}
  (hb:GB R F a m c B xs) (hp:own[p]?=some B) (I:∀B',ku own p B'=some (dx B')) (ab:o.op=.call ⟨.builtin .append,⟨[so,xo]⟩,⟨t::ts⟩⟩) (hw:aL ops k o=some true) {dst:Nat} (J:o.dst=some dst) (hn:Nat.blt dst n=true)
  (hs:bg C k so=some (.slice a m c)) (hx:bg C k xo=some x) (hr:rowOf T t=some r) (hd:r.d=.slice e) (ae:ef T e=some R.size) (hz:gL T e=some z) (af:nF T e=some by_)
  (P:∀h,St F own h->kD C h e R.size ts.head? x=some (d,ds)) (l:aG R F ds ys) (hlen:d=ys.length) (U:0<d/\0<R.size/\0<by_) (g:(m+d)*by_<=140737488355328)
  (h:∀a' c' B',cb R F a' (m+d) c' B' (xs++ys)->WT C n ops rest ((dst,.slice a' (m+d) c')::k) F (dx B') (λk2 F2 own2 rs=>Q k2 F2 own2 (⟨F,own,F,dx B',[]⟩::rs))) :
  WT C n ops (o::rest) k F own Q:=by
 have hm:=hb.len;rcases hb.at_ with ⟨h1,h2,h3,h4⟩ | ⟨i,cs,ag,h1,h2,h3,h4,h5⟩;{exact WT.aZ hT p (⟨hm,.inl ⟨h1,h2,h3,h4⟩⟩:cb R F a m c B xs) hp I ab hw J hn hs hx hr hd ae hz af P l hlen U g h};{subst h1;obtain⟨bb,hc⟩:=hb.Ra;subst hc;subst h3;have h6:bO (cs++ag) 0 (m*R.size)=some cs:=by{have:=h4.len;refine o6 ?_ (by rw[this,<-hm]);rw[Vg,T4 (by rw[this,<-hm];exact mc _),qs (by rw[this,<-hm];exact mc _)]};have hl:bl (bg C k) o.op=some []:=by{rw[ab];rfl};have hv:dm (bg C k) [so,xo]=some [.slice (some ⟨i,0,none⟩) m R.size,x]:=by{simp[dm,hs,hx]};have ac:(!(ds.length==d*R.size&&ds.all one&&Nat.blt 0 R.size&&Nat.blt 0 by_&&Nat.ble ((m+d)*by_) 140737488355328))=false:=by{have g1:(ds.length==d*R.size)=true:=by{rw[l.len,hlen];simp};have g2:Nat.blt 0 R.size=true:=Tj h5;have g3:Nat.blt 0 by_=true:=Tj U.2.2;have g4:Nat.ble ((m+d)*by_) 140737488355328=true:=Tj g;rw[g1,g2,g3,g4,l.one];rfl};have ax:(d==0)=false:=by{simp;omega};refine WT.move (mk:=λj=>.slice (some ⟨j,0,none⟩) (m+d) R.size) (b:=.cells false (cs++ag)) (b':=.cells false (cs++ds)) p hp hw hl (λh0 s0 hg=>?_) (λj hj=>?_);{rw[ab];have ay:(R.size==0)=false:=by{simp;omega};have a0:(!(R.size==R.size))=false:=by{simp};simp only[aW,hv,bR,gg,bP hT hr hd,bS hT ae,cZ hT hz,fV hT af,P h0 s0,ac,ax,zm,ay,a0,hg,h6];rfl};{rw[J,aC hn,cQ _ _ _ _ (I [(j,.cells false (cs++ds))])];exact h _ _ _ ⟨by simp;omega,.inr ⟨j,_,rfl,rfl,rfl,h4.append l,h5⟩⟩}}
theorem WT.vy(hT:aU C T=true){t e:Nat}{r:Row}{xo g:Operand}{a:Option Addr}{m c j:Nat}{B:List (Nat×aJ)}{xs:List α}(hb:GB R F a m c B xs)(p:o.op=.slice t xo none (some g) none)(hw:aL ops k o=some true){dst:Nat}(I:o.dst=some dst)(hn:Nat.blt dst n=true)
  (hx:bg C k xo=some (.slice a m c)) (hi:bg C k g=some (.int .i64 (j:Nat))) (hr:rowOf T t=some r) (hd:r.d=.slice e) (hs:ef T e=some R.size) (hj:j<=m)
  (h:WT C n ops rest ((dst,.slice a j c)::k) F own (λk2 F2 own2 rs=>Q k2 F2 own2 (⟨F,own,F,own,[]⟩::rs))):WT C n ops (o::rest) k F own Q:=by
 have J:∀h0,ik C h0 t (.slice a m c) none (some (.int .i64 (j:Nat))) none=some (.slice a j c):=by{intro h0;have P:di (some (.int .i64 (j:Nat))) m=some j:=by{simp[di]};have U:di none 0=some 0:=rfl;have e0:Nat.ble 0 j=true:=by{simp};have e1:Nat.ble j m=true:=Tj hj;rcases hb.at_ with ⟨g1,g2,g3,g4⟩ | ⟨i,cs,av,g1,g2,g3,g4,g5⟩;{subst g2;have hm:=hb.len;rw[g1] at hm;have hm:m=0:=hm;subst hm;have:j=0:=by{omega};subst this;subst g3;simp only[ik,bP hT hr hd,bS hT hs,U,P];rfl};{subst g1 g2;simp only[ik,bP hT hr hd,bS hT hs,U,P,e0,e1];simp}};refine WT.slice (x:=.slice a m c) (vlo:=none) (vhi:=some (.int .i64 (j:Nat))) (l:=[]) p hw I hn (by rw[p];simp only[bl,hx]) hx rfl (by simp[mC,hi]) J h
end
section
variable {C:Ctx}{T:RT}{n:Nat}{k:ck}{F:aA}{own:bA}{ops rest:List Oper}{o:Oper}{Q:ck->aA->bA->List Rec->Prop}
theorem vW(hT:aU C T=true){t:Nat}{r:Row}(q:rowOf T t=some r):∃d,C.iL t=some d/\z7 d=false:=by
 obtain⟨_,_,_,_,d,h1,g⟩:=dL hT q;refine⟨d,h1,?_⟩;cases d<;>first | rfl | (unfold kQ at g;split at g<;>simp_all)
theorem WT.sy(hT:aU C T=true){t:TypeId}{j:Operand}{a:Value}{r:Row}{dst:Nat}(g:o.op=.makeInterface t j)(hw:aL ops k o=some true)(i:o.dst=some dst)(p:Nat.blt dst n=true)
  (I:bg C k j=some a) (J:rowOf T t=some r)
  (h:WT C n ops rest ((dst,.iface t a)::k) F own (λk2 P own2 rs=>Q k2 P own2 (⟨F,own,F,own,[]⟩::rs))):WT C n ops (o::rest) k F own Q:=by
 refine WT.still hw (l:=[]) (by rw[g];rfl) (λU _=>?_) (by rw[i,aC p];exact h);obtain⟨d,h1,R⟩:=vW hT J;rw[g];simp only[aW,I,h1];cases d<;>first | rfl | cases R
theorem WT.Ea(hT:aU C T=true){t p:TypeId}{j:Operand}{v:Value}{r:Row}{b:Bool}{dst:Nat}(g:o.op=.typeAssert j p t b)(hw:aL ops k o=some true)(i:o.dst=some dst)(I:Nat.blt dst n=true)
  (J:bg C k j=some (.iface t v)) (P:rowOf T t=some r)
  (h:WT C n ops rest ((dst,bif b then .tuple ⟨[v,.bool true]⟩ else v)::k) F own (λk2 R own2 rs=>Q k2 R own2 (⟨F,own,F,own,[]⟩::rs))):WT C n ops (o::rest) k F own Q:=by
 refine WT.still hw (l:=[]) (by rw[g];rfl) (λh0 _=>?_) (by rw[i,aC I];exact h);obtain⟨d,h1,U⟩:=vW hT P;rw[g];simp only[aW,J,ke,h1,U,zm,UX,xf];rfl
theorem WT.ptrEq(hT:aU C T=true){t ty:TypeId}{R U:Operand}{i j e s:Nat}{cs ds:List Value}{r:Row}{dst:Nat}(g:o.op=.binOp .eql t R U ty)(hw:aL ops k o=some true)(p:o.dst=some dst)(hn:Nat.blt dst n=true)
  (J:bg C k R=some (.pointer (some ⟨i,0,none⟩))) (P:bg C k U=some (.pointer (some ⟨j,0,none⟩))) (hi:F i=some (.cells false cs)) (hj:F j=some (.cells false ds)) (hr:rowOf T t=some r) (hd:r.d=.pointer e) (hs:ef T e=some (s+1))
  (h:WT C n ops rest ((dst,.bool (i==j))::k) F own (λk2 F2 own2 rs=>Q k2 F2 own2 (⟨F,own,F,own,[i,j]⟩::rs))):WT C n ops (o::rest) k F own Q:=by
 refine WT.still hw (l:=[i,j]) (by rw[g];simp only[bl,J,P];rfl) (λh0 s0=>?_) (by rw[p,aC hn];exact h);rw[g];have l1:live h0 i=true:=by{unfold live;rw[s0.Bl _ _ hi]};have l2:live h0 j=true:=by{unfold live;rw[s0.Bl _ _ hj]};have e0:(s+1==0)=false:=by{simp};cases I:i==j with| true=>{simp only[aW,J,P,mw,jH,equalA,iC hT hr hd,bS hT hs,e0,I,xf,zm];rfl}| false=>{simp only[aW,J,P,mw,jH,equalA,iC hT hr hd,bS hT hs,e0,I,l1,l2,Uh,xf,zm];rfl}
theorem AR{ro:Operand}{g:Array Operand}{ts:Array TypeId}{name:String}{f:FuncId}{fn:Func}{recv x:Value}{args:List Value}(j:C.func f=some fn)(l:fn.body.isSome=true)(i:o.op=.call ⟨.invoke ro name,g,ts⟩)
  (p:bg C k ro=some x) (r:dm (bg C k) g.toList=some args) {h:au} (hm:jS C h x name=some (f,recv)):aW C (bg C k) h o.op=some (.call f (recv::args)):=by
 rw[i];simp only[aW,p,r,hm,j,l,xf]
theorem WT.mU(p:Nat){ro:Operand}{j:Array Operand}{ts:Array TypeId}{name:String}{f:FuncId}{fn:Func}{recv x:Value}{args:List Value}{B:List (Nat×aJ)}{up:List (Nat×aJ)->bA}{P:aA->Value->List (Nat×aJ)->Prop}(hf:C.func f=some fn)(hb:fn.body.isSome=true)(r:o.op=.call ⟨.invoke ro name,j,ts⟩)
  (hw:aL ops k o=some true) {dst:Nat} (t:o.dst=some dst) (hn:Nat.blt dst n=true) (hr:bg C k ro=some x) (hv:dm (bg C k) j.toList=some args) (hm:∀h,St F own h->jS C h x name=some (f,recv)) (hp:own[p]?=some B) (I:∀g,ku own p g=some (up g))
  (spec:Spec C f (recv::args) F [B] λi v o=>∃g,o=[g]/\P i v g)
  (h:∀i v g,aA.le F i->P i v g->WT C n ops rest ((dst,v)::k) i (up g) (λk2 F2 own2 rs=>Q k2 F2 own2 (⟨F,own,i,up g,[]⟩::rs))) :
  WT C n ops (o::rest) k F own Q:=by
 refine WT.step (l:=[]) (by rw[r];rfl) λe U hk hs=>?_;obtain⟨v,h1,F1,ab,⟨m,hd⟩,hF,J,g,rfl,R⟩:=spec (own.eraseIdx p) U (hs.perm (bI hp));have e1:=cQ _ _ _ _ (I g);refine⟨v,h1,F1,up g,⟨m,λN hN=>?_⟩,hF,?_,by rw[t,aC hn];exact h F1 v g hF R⟩;{unfold cq;rw[dS hk hw];simp only[dP hk.eval (AR hf hb r hr hv (hm U hs)),hd N hN]};{rw[<-e1];exact J.perm (fe g hp).symm}
theorem WT.jL(p:Nat){ro:Operand}{g:Array Operand}{ts:Array TypeId}{name:String}{f:FuncId}{fn:Func}{recv x:Value}{args:List Value}{B:List (Nat×aJ)}{P:Value->Prop}(U:C.func f=some fn)(hb:fn.body.isSome=true)(j:o.op=.call ⟨.invoke ro name,g,ts⟩)
  (hw:aL ops k o=some true) {dst:Nat} (r:o.dst=some dst) (hn:Nat.blt dst n=true) (hr:bg C k ro=some x) (hv:dm (bg C k) g.toList=some args) (hm:∀h,St F own h->jS C h x name=some (f,recv)) (hp:own[p]?=some B)
  (spec:∀G,aA.le F G->(∀i b,(i,b)∈B->G i=some b)->Spec C f (recv::args) G [] λ_ v o=>o=[]/\P v)
  (h:∀v,P v->WT C n ops rest ((dst,v)::k) F own (λk2 F2 own2 rs=>Q k2 F2 own2 (⟨F,own,F,own,[]⟩::rs))) :
  WT C n ops (o::rest) k F own Q:=by
 refine WT.step (l:=[]) (by rw[j];rfl) λe J hk hs=>?_;obtain⟨v,h1,F1,R,⟨m,hd⟩,hF,t,o',rfl,rfl,I⟩:=Spec.I6 spec (own.eraseIdx p) J (hs.perm (bI hp));refine⟨v,h1,F,own,⟨m,λN hN=>?_⟩,aA.le.refl F,?_,by rw[r,aC hn];exact h v I⟩;{unfold cq;rw[dS hk hw];simp only[dP hk.eval (AR U hb j hr hv (hm J hs)),hd N hN]};{exact(t.nZ hF).perm (bI hp).symm}
end
section
variable {C:Ctx}{T:RT}{n:Nat}{k:ck}{F:aA}{own:bA}{ops rest:List Oper}{o:Oper}{Q:ck->aA->bA->List Rec->Prop}{α:Type}{R:Ty α}
theorem GB.zJ{a:Option Addr}{m c:Nat}{B:List (Nat×aJ)}{xs:List α}(l:GB R F a m c B xs){j:Nat}{x:α}(g:xs[j]?=some x):∃i cs rest,a=some ⟨i,0,none⟩/\c=R.size/\B=[(i,.cells false (cs++rest))]/\aG R F cs xs/\0<R.size:=
 l.at_.resolve_left λh=>by rw[h.1] at g;simp at g
theorem WT.rp(hT:aU C T=true){t e:Nat}{r:Row}{I io:Operand}{a:Option Addr}{m c:Nat}{B:List (Nat×aJ)}{xs:List α}{P:IntKind}{j:Nat}(J:GB R F a m c B xs)(p:o.op=.indexAddr t I io)(hw:aL ops k o=some true){dst:Nat}(g:o.dst=some dst)(U:Nat.blt dst n=true)
  (hx:bg C k I=some (.slice a m c)) (hi:bg C k io=some (.int P (j:Nat))) (hr:rowOf T t=some r) (hd:r.d=.slice e) (hs:ef T e=some R.size) (hj:j<m)
  (h:∀b,a=some ⟨b,0,none⟩->WT C n ops rest ((dst,.pointer (some ⟨b,0+j*R.size,none⟩))::k) F own (λk2 F2 own2 rs=>Q k2 F2 own2 (⟨F,own,F,own,[]⟩::rs))):WT C n ops (o::rest) k F own Q:=by
 have hm:=J.len;obtain⟨i,cs,af,rfl,rfl,rfl,h4,h5⟩:=J.zJ (To (l:=xs) (i:=j) (by omega));exact WT.cH hT p hw g U hx hi hr hd hs hj (h i rfl)
theorem GB.el{a:Option Addr}{m c b:Nat}{B:List (Nat×aJ)}{xs:List α}(r:GB R F a m c B xs)(g:a=some ⟨b,0,none⟩){j:Nat}{x:α}(p:xs[j]?=some x):∃cs l,(b,aJ.cells false cs)∈B/\bO cs (0+j*R.size) R.size=some l/\R.rel F l x:=by
 obtain⟨i,cs,t,h1,P,I,J,U⟩:=r.zJ p;rw[h1] at g;cases g;obtain⟨l,g1,g2⟩:=J.at j x p;exact⟨_,l,by rw[I];exact D2 ..,by rw[AI];exact vA g1,g2⟩
theorem WT.KE(hT:aU C T=true)(p:Nat){t:TypeId}{P:Operand}{a:Option Addr}{m c j b:Nat}{B U:List (Nat×aJ)}{xs:List α}{x:α}{r:Row}(hv:GB R F a m c B xs)(ha:a=some ⟨b,0,none⟩)(hj:xs[j]?=some x)(I:o.op=.load t P)(hw:aL ops k o=some true){dst:Nat}(g:o.dst=some dst)(hn:Nat.blt dst n=true)
  (J:bg C k P=some (.pointer (some ⟨b,0+j*R.size,none⟩))) (hp:own[p]?=some U) (i:∀z,z∈B->z∈U) (hr:rowOf T t=some r) (hd:r.d.agg=true) (hs:r.size=R.size)
  (h:∀l,R.rel F l x->WT C n ops rest ((dst,.agg ⟨l⟩)::k) F own (λk2 F2 own2 rs=>Q k2 F2 own2 (⟨F,own,F,own,[b]⟩::rs))):WT C n ops (o::rest) k F own Q:=by
 obtain⟨cs,l,h1,h2,h3⟩:=hv.el ha hj;exact WT.uj p I hw J hp (i _ h1) (vZ hT hr hd hs h2) (by rw[g,aC hn];exact h l h3)
theorem WT.Ft(hT:aU C T=true)(p:Nat){t:TypeId}{ao:Operand}{a:Option Addr}{m c j b:Nat}{B B2:List (Nat×aJ)}{xs:List α}{x:α}{r:Row}(hv:GB R F a m c B xs)(ha:a=some ⟨b,0,none⟩)(hj:xs[j]?=some x)(I:o.op=.load t ao)(hw:aL ops k o=some true){dst:Nat}(g:o.dst=some dst)(hn:Nat.blt dst n=true)
  (J:bg C k ao=some (.pointer (some ⟨b,0+j*R.size,none⟩))) (hp:own[p]?=some B2) (i:∀z,z∈B->z∈B2) (hr:rowOf T t=some r) (hd:r.d.agg=false) (hs:R.size=1)
  (h:∀v,R.rel F [v] x->WT C n ops rest ((dst,v)::k) F own (λk2 F2 own2 rs=>Q k2 F2 own2 (⟨F,own,F,own,[b]⟩::rs))):WT C n ops (o::rest) k F own Q:=by
 obtain⟨cs,l,h1,P,h3⟩:=hv.el ha hj;have hl:=R.len _ _ _ h3;rw[hs] at hl P;obtain⟨v,rfl⟩:∃v,l=[v]:=List.length_eq_one_iff.1 hl;rw[<-hs] at P;have U:bO cs (0+j*R.size) 1=some [v]:=by{rw[<-hs];exact P};exact WT.loadAt hT p I hw g hn J hp (i _ h1) hr hd (BP U rfl) (h v h3)
theorem GB.set{a:Option Addr}{m c b:Nat}{cs:List Value}{xs:List α}(h:GB R F a m c [(b,.cells false cs)] xs){j:Nat}{x y:α}{l:List Value}(g:xs[j]?=some x)(t:R.rel F l y) :
  GB R F a m c [(b,.cells false (bp cs (0+j*R.size) l))] (xs.set j y):=by
 obtain⟨i,cs',p,h1,P,I,J,U⟩:=h.zJ g;simp only[T1,Tk,aJ.cells.injEq,Vs,Vd] at I;obtain⟨rfl,rfl⟩:=I;have hlen:=J.len;have r:j<xs.length:=(No.1 g).1;have hm:(j+1)*R.size<=xs.length*R.size:=TG _ r;have aa:=R.len _ _ _ t;rw[TO,Uu] at hm;refine⟨by rw[TX];exact h.len,.inr ⟨b,bp cs' (j*R.size) l,p,h1,P,?_,J.set t g,U⟩⟩;congr 3;rw[AI];unfold bp;rw[T4 (by omega),List.drop_append_of_le_length (by omega),By,By]
theorem WT.Sa(hT:aU C T=true)(p:Nat){t:TypeId}{ao x:Operand}{a:Option Addr}{m c j b:Nat}{B:List (Nat×aJ)}{dx:List (Nat×aJ)->bA}{xs:List α}{z y:α}{v:Value}(hv:GB R F a m c B xs)(ha:a=some ⟨b,0,none⟩)(I:xs[j]?=some z)(J:o.op=.store t ao x)(hw:aL ops k o=some true)(hd:o.dst=none)
  (P:bg C k ao=some (.pointer (some ⟨b,0+j*R.size,none⟩))) (hx:bg C k x=some v) (U:R.rel F v.cells.toList y) (hp:own[p]?=some B) (r:∀l,ku own p l=some (dx l)) (hm:ef T t=some R.size)
  (h:∀l,GB R F a m c l (xs.set j y)->WT C n ops rest k F (dx l) (λk2 F2 own2 rs=>Q k2 F2 own2 (⟨F,own,F,dx l,[b]⟩::rs))) :
  WT C n ops (o::rest) k F own Q:=by
 obtain⟨i,cs,g,h1,h2,h3,h4,h5⟩:=hv.zJ I;rw[h1] at ha;cases ha;subst h3;have hlen:=h4.len;have aa:j<xs.length:=(No.1 I).1;have ab:(j+1)*R.size<=xs.length*R.size:=TG _ aa;rw[TO,Uu] at ab;have e1:=cQ _ _ _ _ (r [(b,.cells false (bp (cs++g) (0+j*R.size) v.cells.toList))]);have ac:=WT.store (C:=C) (n:=n) (k:=k) (F:=F) (own:=own) (ops:=ops) (rest:=rest) (o:=o) (Q:=Q) p 0 J hw P hx hp rfl (bS hT hm) (R.len _ _ _ U) (R.one _ _ _ U) (by rw[sj];omega);refine ac ?_;rw[hd];have e2:([(b,aJ.cells false (cs++g))]:List (Nat×aJ)).set 0 (b,.cells false (bp (cs++g) (0+j*R.size) v.cells.toList))=[(b,.cells false (bp (cs++g) (0+j*R.size) v.cells.toList))]:=rfl;rw[e2,e1];exact h _ (hv.set I U)
end
end Go.Abs
/-
 Maps with marks of what was deleted: looking up,setting,deleting,entries.
-/
set_option linter.unusedVariables false
namespace Go.Abs
open Go
theorem gy{x:Value×Value}(g:cm x.1=false):∀(es:List (Value×Value)) (j:Nat),alive (aO x es j)=(alive es).set j x
 | [],j=>by simp[aO,alive]
 | (k,v)::es,j=>by{obtain⟨i,l⟩:=x;have g:cm i=false:=g;cases hk:cm k with| true=>{cases j with| zero=>{simp only[aO,alive,hk,xf];exact gy (x:=(i,l)) g es 0}| succ j=>{simp only[aO,alive,hk,xf];exact gy (x:=(i,l)) g es (j+1)}}| false=>{cases j with| zero=>{simp only[aO,alive,hk,g,zm,U7]}| succ j=>{simp only[aO,alive,hk,zm,Ux];rw[gy (x:=(i,l)) g es j]}}}
theorem iX{x:Value×Value}(g:cm x.1=true):∀(es:List (Value×Value)) (j:Nat),alive (aO x es j)=(alive es).eraseIdx j
 | [],j=>by simp[aO,alive]
 | (k,v)::es,j=>by{obtain⟨i,l⟩:=x;have g:cm i=true:=g;cases hk:cm k with| true=>{cases j with| zero=>{simp only[aO,alive,hk,xf];exact iX (x:=(i,l)) g es 0}| succ j=>{simp only[aO,alive,hk,xf];exact iX (x:=(i,l)) g es (j+1)}}| false=>{cases j with| zero=>{simp only[aO,alive,hk,g,zm,xf,List.eraseIdx_cons_zero]}| succ j=>{simp only[aO,alive,hk,zm,List.eraseIdx_cons_succ];rw[iX (x:=(i,l)) g es j]}}}
theorem nm:∀(a b:List (Value×Value)),alive (a++b)=alive a++alive b
 | [],_=>rfl
 | (k,v)::a,b=>by{cases hk:cm k with| true=>{simp only[TI,alive,hk,xf];exact nm a b}| false=>{simp only[TI,alive,hk,zm];rw[nm a b]}}
theorem rX:∀(n:Nat) (a b:List (Value×Value)),stamps n (a++b)=stamps n a++stamps (n+a.length) b
 | _,[],_=>by simp[stamps]
 | n,(k,v)::a,b=>by{have e:n+1+a.length=n+((k,v)::a).length:=by{simp;omega};cases hk:cm k with| true=>{simp only[TI,stamps,hk,xf];rw[rX (n+1) a b,e]}| false=>{simp only[TI,stamps,hk,zm];rw[rX (n+1) a b,e]}}
theorem lq:∀(n:Nat) (a:List (Value×Value)),(stamps n a).length=(alive a).length
 | _,[]=>rfl
 | n,(k,v)::a=>by{cases hk:cm k with| true=>{simp only[stamps,alive,hk,xf];exact lq (n+1) a}| false=>{simp only[stamps,alive,hk,zm,IT];rw[lq (n+1) a]}}
theorem oe:∀(n:Nat) (a:List (Value×Value)),∀x∈stamps n a,n<=x/\x<n+a.length
 | _,[],x,h=>by cases h
 | n,(k,v)::a,x,h=>by{cases hk:cm k with| true=>{simp only[stamps,hk,xf] at h;have:=oe (n+1) a x h;simp only[IT];omega}| false=>{simp only[stamps,hk,zm] at h;rcases PJ.1 h with rfl | h;{simp only[IT];omega};{have:=oe (n+1) a x h;simp only[IT];omega}}}
theorem mz:∀(n:Nat) (a:List (Value×Value)),(stamps n a).Pairwise (·<·)
 | _,[]=>List.Pairwise.nil
 | n,(k,v)::a=>by{cases hk:cm k with| true=>{simp only[stamps,hk,xf];exact mz (n+1) a}| false=>{simp only[stamps,hk,zm];exact List.pairwise_cons.2 ⟨λx g=>by have:=(oe (n+1) a x g).1;omega,mz (n+1) a⟩}}
theorem zH{l:List Nat}(hs:l.Pairwise (·<·)){j n:Nat}(o:l[j]?=some n):l.findIdx? (λ(b:Nat)=>decide ((b:Int)=(n:Int)))=some j:=by
 obtain⟨h1,g⟩:=No.1 o;rw[List.findIdx?_eq_some_iff_getElem];refine⟨h1,by simp[g],λi hi=>?_⟩;have:=TS.1 hs i j (by omega) h1 hi;rw[g] at this;simp only[TQ];omega
def kP{κ:Type}[DecidableEq κ]:cd κ->κ->cd κ
 | [],_=>[]
 | (g,v)::m,k=>if k=g then m else (g,v)::kP m k
section
variable {C:Ctx}{T:RT}{t:TypeId}{κ:Type}[DecidableEq κ](K:qd C t κ)
theorem Bv(k:κ):∀(m:cd κ) (i:Nat),(look m k=none/\eY C t (K.key k) (aP K m) i=some none/\kP m k=m)\/
  ∃j v,look m k=some v/\eY C t (K.key k) (aP K m) i=some (some (i+j,v))/\(aP K m).eraseIdx j=aP K (kP m k)
 | [],i=>.inl ⟨rfl,rfl,rfl⟩
 | (l,v')::m,i=>by{rcases K.eq k l with ⟨rfl,h⟩ | ⟨g,h⟩;{refine .inr ⟨0,v',by simp[look],?_,by simp[aP,kP]⟩;simp only[aP,y2,eY,h];rfl};{rcases Bv k m (i+1) with ⟨h1,o,p⟩ | ⟨j,v,h1,o,p⟩;{refine .inl ⟨by simp only[look];rw[nw g];exact h1,?_,by simp only[kP];rw[nw g,p]⟩;simp only[aP,y2,eY,h];exact o};{refine .inr ⟨j+1,v,by simp only[look];rw[nw g];exact h1,?_,?_⟩;{simp only[aP,y2,eY,h];rw[show i+(j+1)=i+1+j by omega];exact o};{have:kP ((l,v')::m) k=(l,v')::kP m k:=by{simp only[kP];rw[nw g]};rw[this];show (K.key l,v')::(aP K m).eraseIdx j=(K.key l,v')::aP K (kP m k);rw[p]}}}}
theorem Fe{k:κ}:∀{m:cd κ} {p:κ×Value},p∈kP m k->p∈m
 | [],_,h=>h
 | (g,v)::m,p,h=>by{simp only[kP] at h;split at h;{exact mb _ h};{rcases PJ.1 h with rfl | h;{exact D2 ..};{exact mb _ (Fe h)}}}
theorem yQ{k:κ}:∀{m:cd κ},(m.map (·.1)).Nodup->((kP m k).map (·.1)).Nodup
 | [],h=>h
 | (g,v)::m,h=>by{simp only[y2,TJ] at h;simp only[kP];split;{exact h.2};{simp only[y2,TJ];refine⟨λhm=>h.1 ?_,yQ h.2⟩;obtain⟨p,hp,e⟩:=x6.1 hm;exact x6.2 ⟨p,Fe hp,e⟩}}
theorem BV{k:κ}{v:Value}:∀{m:cd κ},(m.map (·.1)).Nodup->((cE m k v).map (·.1)).Nodup
 | [],_=>by simp[cE]
 | (g,v')::m,h=>by{simp only[y2,TJ] at h;simp only[cE];split;{simp only[y2,TJ];exact h};{rename_i i;simp only[y2,TJ];refine⟨λhm=>?_,BV h.2⟩;have key:∀{m:cd κ},g∈(cE m k v).map (·.1)->g=k\/g∈m.map (·.1):=by{intro m;induction m with| nil=>{intro hx;simp[cE] at hx;exact .inl hx}| cons p m j=>{obtain⟨a,b⟩:=p;intro hx;simp only[cE] at hx;split at hx;{exact .inr (by simpa using hx)};{rcases PJ.1 hx with e | hx;{exact .inr (by simp[e])};{rcases j hx with e | e;{exact .inl e};{exact .inr (by simp only[y2];exact mb _ e)}}}}};rcases key hm with e | e;{exact i e.symm};{exact h.1 e}}}
variable {n:Nat}{k:ck}{F:aA}{own:bA}{ops rest:List Oper}{o:Oper}{Q:ck->aA->bA->List Rec->Prop}
theorem WT.IH(hT:aU C T=true)(p:Nat){R U:TypeId}{mo ko:Operand}{i:Nat}{es:List (Value×Value)}{m:cd κ}{key:κ}{r:Row}{z:Value}{B:List (Nat×aJ)}{d:Nat}(g:alive es=aP K m)(l:o.op=.lookup R mo ko false)(hw:aL ops k o=some true)(I:o.dst=some d)(hn:Nat.blt d n=true)
  (hm:bg C k mo=some (.map (some i))) (hk:bg C k ko=some (K.key key)) (hp:own[p]?=some B) (hq:(i,aJ.map es)∈B) (hr:rowOf T R=some r) (hd:r.d=.map t U) (hz:gL T U=some z)
  (h1:WT C n ops rest ((d,(look m key).getD z)::k) F own (λk2 F2 own2 rs=>Q k2 F2 own2 (⟨F,own,F,own,[i]⟩::rs))):WT C n ops (o::rest) k F own Q:=by
 have hl:bl (bg C k) o.op=some [i]:=by{rw[l];simp only[bl,hm]};(refine WT.still hw hl (λh0 s0=>?_) (by rw[I,aC hn];exact h1);have hb:=s0.has hp hq;rw[l];rcases fD K key m 0 with ⟨J,P⟩ | ⟨j,v,J,P,_,_⟩);{simp only[aW,hm,hk,gZ,dN hT hr hd,gv,hb,g,K.ok,P,cZ hT hz,J];rfl};{simp only[aW,hm,hk,gZ,dN hT hr hd,gv,hb,g,K.ok,P,J];rfl}
theorem WT.NW(hT:aU C T=true)(p q:Nat){tm et:TypeId}{mo ko vo:Operand}{i:Nat}{es:List (Value×Value)}{m:cd κ}{key:κ}{v:Value}{r:Row}{B:List (Nat×aJ)}{dx:aJ->List (Nat×aJ)}{up:aJ->bA}(g:alive es=aP K m)(l:o.op=.mapUpdate tm mo ko vo)(hw:aL ops k o=some true)(I:o.dst=none)
  (hm:bg C k mo=some (.map (some i))) (hk:bg C k ko=some (K.key key)) (hv:bg C k vo=some v) (hp:own[p]?=some B) (hq:B[q]?=some (i,aJ.map es)) (hr:rowOf T tm=some r) (hd:r.d=.map t et)
  (hB:∀b,xL B q (i,b)=some (dx b)) (ho:∀b,ku own p (dx b)=some (up b))
  (h:∀J,alive J=aP K (cE m key v)->WT C n ops rest k F (up (.map J)) (λk2 F2 own2 rs=>Q k2 F2 own2 (⟨F,own,F,up (.map J),[]⟩::rs))):WT C n ops (o::rest) k F own Q:=by
 have ht:=fU K key;rcases fD K key m 0 with ⟨h3,P⟩ | ⟨j,v2,h3,P,h5,h6⟩;{have R:=gK _ _ _ _ (hB (.map (es++[(K.key key,v)])));have U:=cQ _ _ _ _ (ho (.map (es++[(K.key key,v)])));refine WT.put (v:=bX) (b':=.map (es++[(K.key key,v)])) p q hp hq hw (by rw[l];rfl) (λh0 s0 hb=>?_) ?_;{rw[l];simp only[aW,hm,hk,hv,cO,dN hT hr hd,hb,g,K.ok,P];rfl};{rw[I,R,U];refine h _ ?_;rw[nm,g,kY K key v m h3];simp only[alive,ht,zm]}};{have R:=gK _ _ _ _ (hB (.map (aO (K.key key,v) es j)));have U:=cQ _ _ _ _ (ho (.map (aO (K.key key,v) es j)));refine WT.put (v:=bX) (b':=.map (aO (K.key key,v) es j)) p q hp hq hw (by rw[l];rfl) (λh0 s0 hb=>?_) ?_;{rw[l];simp only[aW,hm,hk,hv,cO,dN hT hr hd,hb,g,K.ok,P,AI,h5,eO];rfl};{rw[I,R,U];refine h _ ?_;rw[gy ht,g,h6]}}
theorem WT.NH(hT:aU C T=true)(p q:Nat){tm et:TypeId}{ts:List TypeId}{R U:Operand}{i:Nat}{es:List (Value×Value)}{m:cd κ}{key:κ}{r:Row}{B:List (Nat×aJ)}{dx:aJ->List (Nat×aJ)}{up:aJ->bA}(l:alive es=aP K m)(I:o.op=.call ⟨.builtin .delete,⟨[R,U]⟩,⟨tm::ts⟩⟩)(hw:aL ops k o=some true)(J:o.dst=none)
  (hm:bg C k R=some (.map (some i))) (hk:bg C k U=some (K.key key)) (hp:own[p]?=some B) (hq:B[q]?=some (i,aJ.map es)) (hr:rowOf T tm=some r) (hd:r.d=.map t et)
  (hB:∀b,xL B q (i,b)=some (dx b)) (ho:∀b,ku own p (dx b)=some (up b))
  (h:∀P,alive P=aP K (kP m key)->WT C n ops rest k F (up (.map P)) (λk2 F2 own2 rs=>Q k2 F2 own2 (⟨F,own,F,up (.map P),[]⟩::rs))):WT C n ops (o::rest) k F own Q:=by
 have g:dm (bg C k) [R,U]=some [.map (some i),K.key key]:=by{simp only[dm,hm,hk]};rcases Bv K key m 0 with ⟨h3,h4,h5⟩ | ⟨j,v2,h3,h4,h5⟩;{have e1:=gK _ _ _ _ (hB (.map es));have e2:=cQ _ _ _ _ (ho (.map es));refine WT.put (v:=bX) (b':=.map es) p q hp hq hw (by rw[I];rfl) (λh0 s0 hb=>?_) ?_;{rw[I];simp only[aW,g,bR,kL,dN hT hr hd,hb,l,K.ok,h4];rfl};{rw[J,e1,e2];exact h _ (by rw[l,h5])}};{have e1:=gK _ _ _ _ (hB (.map (aO (bX,bX) es j)));have e2:=cQ _ _ _ _ (ho (.map (aO (bX,bX) es j)));refine WT.put (v:=bX) (b':=.map (aO (bX,bX) es j)) p q hp hq hw (by rw[I];rfl) (λh0 s0 hb=>?_) ?_;{rw[I];simp only[aW,g,bR,kL,dN hT hr hd,hb,l,K.ok,h4,AI];rfl};{rw[J,e1,e2];exact h _ (by rw[iX rfl,l,h5])}}
def I9(m:cd κ)(es:List (Value×Value))(s:Nat)(key:κ):Prop:=
 ∃j,(stamps 0 es)[j]?=some s/\(∃v0,(alive es)[j]?=some (K.key key,v0))/\∀v,(alive es).set j (K.key key,v)=aP K (cE m key v)
theorem uk{α:Type}{l:List α}{p:Nat}{x:α}(h:l[p]?=some x):l.set p x=l:=by
 obtain⟨h1,rfl⟩:=No.1 h;exact List.set_getElem_self h1
theorem WT.OK(hT:aU C T=true)(p q:Nat){tm et:TypeId}{mo ko:Operand}{i:Nat}{es:List (Value×Value)}{m:cd κ}{key:κ}{r:Row}{z:Value}{B:List (Nat×aJ)}{dx:aJ->List (Nat×aJ)}{up:aJ->bA}{d:Nat}(g:alive es=aP K m)(l:o.op=.mapEntry tm mo ko)(hw:aL ops k o=some true)(I:o.dst=some d)(hn:Nat.blt d n=true)
  (hm:bg C k mo=some (.map (some i))) (hk:bg C k ko=some (K.key key)) (hp:own[p]?=some B) (R:B[q]?=some (i,aJ.map es)) (hr:rowOf T tm=some r) (hd:r.d=.map t et) (hz:gL T et=some z)
  (hB:∀b,xL B q (i,b)=some (dx b)) (ho:∀b,ku own p (dx b)=some (up b))
  (h:∀J s,I9 K m J s key->WT C n ops rest ((d,.tuple ⟨[(look m key).getD z,.int .i64 (s:Nat)]⟩)::k) F (up (.map J)) (λk2 F2 own2 rs=>Q k2 F2 own2 (⟨F,own,F,up (.map J),[]⟩::rs))):WT C n ops (o::rest) k F own Q:=by
 have U:=fU K key;rcases fD K key m 0 with ⟨P,h4⟩ | ⟨j,v2,P,h4,h5,h6⟩;{have e1:=gK _ _ _ _ (hB (.map (es++[(K.key key,z)])));have e2:=cQ _ _ _ _ (ho (.map (es++[(K.key key,z)])));refine WT.put (v:=.tuple ⟨[z,.int .i64 (es.length:Nat)]⟩) (b':=.map (es++[(K.key key,z)])) p q hp R hw (by rw[l];rfl) (λh0 s0 hb=>?_) ?_;{rw[l];simp only[aW,hm,hk,eX,dN hT hr hd,hb,g,K.ok,h4,cZ hT hz];rfl};{rw[I,aC hn,e1,e2];have:=h (es++[(K.key key,z)]) es.length ⟨(alive es).length,?_,⟨z,?_⟩,λv=>?_⟩;{rw[P] at this;exact this};{rw[rX,OF (by rw[lq];exact mc _),lq,Ua,AI];simp only[stamps,U,zm];rfl};{rw[nm,OF (mc _),Ua];simp only[alive,U,zm];rfl};{rw[nm,V6 _ _ (mc _),Ua,g,kY K key v m P];simp only[alive,U,zm];rfl}}};{obtain⟨s,hs⟩:∃s,(stamps 0 es)[j]?=some s:=by{have h7:=(No.1 h5).1;rw[<-g,<-lq 0 es] at h7;exact⟨_,To h7⟩};have e1:=gK _ _ _ _ (hB (.map es));have e2:=cQ _ _ _ _ (ho (.map es));have e3:up (.map es)=own:=by{rw[<-e2,<-e1,uk R,uk hp]};refine WT.still (v:=.tuple ⟨[v2,.int .i64 (s:Nat)]⟩) hw (by rw[l];rfl) (λh0 s0=>?_) ?_;{have hb:=s0.has hp (Uj R);rw[l];simp only[aW,hm,hk,eX,dN hT hr hd,hb,g,K.ok,h4,AI,h5,hs,eO];rfl};{rw[I,aC hn];have:=h es s ⟨j,hs,⟨v2,by rw[g];exact h5⟩,λv=>by rw[g,h6]⟩;rw[P,e3] at this;exact this}}
theorem WT.Nc(p q:Nat){R:TypeId}{I J P:Operand}{i s:Nat}{U:IntKind}{es:List (Value×Value)}{m:cd κ}{key:κ}{v:Value}{B:List (Nat×aJ)}{dx:aJ->List (Nat×aJ)}{up:aJ->bA}(he:I9 K m es s key)(l:o.op=.entryStore R I J P)(hw:aL ops k o=some true)(r:o.dst=none)
  (hm:bg C k I=some (.map (some i))) (hs:bg C k J=some (.int U (s:Nat))) (hv:bg C k P=some v) (hp:own[p]?=some B) (hq:B[q]?=some (i,aJ.map es))
  (hB:∀b,xL B q (i,b)=some (dx b)) (ho:∀b,ku own p (dx b)=some (up b))
  (h:∀g,alive g=aP K (cE m key v)->WT C n ops rest k F (up (.map g)) (λk2 F2 own2 rs=>Q k2 F2 own2 (⟨F,own,F,up (.map g),[]⟩::rs))):WT C n ops (o::rest) k F own Q:=by
 obtain⟨j,h1,⟨v0,h2⟩,h3⟩:=he;have ht:=fU K key;have hf:=zH (mz 0 es) h1;have e1:=gK _ _ _ _ (hB (.map (aO (K.key key,v) es j)));have e2:=cQ _ _ _ _ (ho (.map (aO (K.key key,v) es j)));refine WT.put (v:=bX) (b':=.map (aO (K.key key,v) es j)) p q hp hq hw (by rw[l];rfl) (λh0 s0 hb=>?_) ?_;{rw[l];simp only[aW,hm,hs,hv,eG,hb,hf,h2];rfl};{rw[r,e1,e2];exact h _ (by rw[gy ht,h3])}
end
end Go.Abs
/-
 Entries of maps that are changed where they lie: 'm[k] |= v'.
-/
set_option linter.unusedVariables false
namespace Go.Abs
open Go
section
variable {C:Ctx}{T:RT}{t:TypeId}{κ:Type}[DecidableEq κ](K:qd C t κ)
def km:cd κ->κ->Nat
 | [],_=>0
 | (k,_)::m,k2=>if k2=k then 0 else km m k2+1
def lE(m:cd κ)(k:κ)(z:Value):cd κ:=if look m k=none then cE m k z else m
theorem vj(k:κ):∀(m:cd κ) (i:Nat),(look m k=none->eY C t (K.key k) (aP K m) i=some none/\km m k=m.length)/\
  (∀v,look m k=some v->eY C t (K.key k) (aP K m) i=some (some (i+km m k,v))/\(aP K m)[km m k]?=some (K.key k,v)/\∀v',(aP K m).set (km m k) (K.key k,v')=aP K (cE m k v'))
 | [],i=>⟨λ_=>⟨rfl,rfl⟩,λv h=>by cases h⟩
 | (r,v')::m,i=>by{rcases K.eq k r with ⟨rfl,h⟩ | ⟨g,h⟩;{refine⟨λj=>by simp[look] at j,λv j=>?_⟩;have j:v'=v:=by{simpa [look] using j};subst j;refine⟨?_,?_,λw=>?_⟩;{simp only[aP,y2,eY,h,km,n0];rfl};{simp only[km,n0,aP,y2];rfl};{simp[aP,cE,km]}};{obtain⟨h1,j⟩:=vj k m (i+1);refine⟨λl=>?_,λv l=>?_⟩;{have l:look m k=none:=by{simpa [look,g] using l};obtain⟨o,p⟩:=h1 l;refine⟨?_,?_⟩;{simp only[aP,y2,eY,h];exact o};{simp only[km,nw g,p,IT]}};{have l:look m k=some v:=by{simpa [look,g] using l};obtain⟨o,p,I⟩:=j v l;refine⟨?_,?_,λw=>?_⟩;{simp only[aP,y2,eY,h,km,nw g];rw[show i+(km m k+1)=i+1+km m k by omega];exact o};{simp only[km,nw g,aP,y2,Ug];exact p};{have:=I w;simp only[aP] at this;simp only[km,nw g,aP,y2,Ux,cE,this]}}}}
omit [DecidableEq κ] in
theorem Cm:∀(m:cd κ) (s j:Nat),j<m.length->(stamps s (aP K m))[j]?=some (s+j)
 | [],_,_,h=>by simp at h
 | (k,v)::m,s,0,_=>by simp only[aP,y2,stamps,fU K k,zm,UL,UA]
 | (k,v)::m,s,j+1,h=>by{have:=Cm m (s+1) j (by simpa using h);simp only[aP] at this;simp only[aP,y2,stamps,fU K k,zm,Ug,this];congr 1;omega}
omit [DecidableEq κ] in
theorem wF:∀(m:cd κ) (s j:Nat),j<m.length->(stamps s (aP K m)).findIdx? (λ(b:Nat)=>decide ((b:Int)=((s+j:Nat):Int)))=some j
 | [],_,_,h=>by simp at h
 | (k,v)::m,s,0,_=>by simp[aP,stamps,fU K k,List.findIdx?_cons]
 | (k,v)::m,s,j+1,h=>by{have:=wF m (s+1) j (by simpa using h);simp only[aP] at this;have g:¬((s:Int)=((s+(j+1):Nat):Int)):=by{omega};have e:s+1+j=s+(j+1):=by{omega};rw[e] at this;simp only[aP,y2,stamps,fU K k,zm,List.findIdx?_cons,Wb g,this];rfl}
theorem CV:∀(m:cd κ) (k:κ) (v:Value),look m k=some v->km m k<m.length
 | [],_,_,h=>by cases h
 | (g,v')::m,k,v,h=>by{unfold look at h;unfold km;split at h;{rename_i e;rw[n0 e];simp};{rename_i e;rw[nw e,IT];have:=CV m k v h;omega}}
theorem k7(m:cd κ)(k:κ)(z:Value):look (lE m k z) k=some ((look m k).getD z):=by
 unfold lE;split;{rename_i h;rw[fT,n0 rfl,h];rfl};{rename_i h;cases e:look m k with| none=>{exact absurd e h}| some v=>{rfl}}
theorem qW:∀(m:cd κ) (k:κ) (z:Value),km (lE m k z) k=km m k
 | [],k,z=>by simp[lE,look,cE,km]
 | (i,v')::m,k,z=>by{by_cases e:k=i;{subst e;simp[lE,look,km]};{have g:=qW m k z;unfold lE at g ⊢;simp only[look,nw e];split;{rename_i h;rw[n0 h] at g;simp only[cE,nw e,km,g]};{rfl}}}
theorem qH:∀(m:cd κ) (k:κ) (z v:Value),cE (lE m k z) k v=cE m k v
 | [],k,z,v=>by simp[lE,look,cE]
 | (i,v')::m,k,z,v=>by{by_cases e:k=i;{subst e;simp[lE,look,cE]};{have g:=qH m k z v;unfold lE at g ⊢;simp only[look,nw e];split;{rename_i h;rw[n0 h] at g;simp only[cE,nw e,g]};{rfl}}}
variable {n:Nat}{k:ck}{F:aA}{own:bA}{ops rest:List Oper}{o:Oper}{Q:ck->aA->bA->List Rec->Prop}
theorem Cz{α:Type}{l:List α}{p:Nat}{a:α}(h:l[p]?=some a):l.set p a=l:=by
 apply Tn;intro i;by_cases e:i=p;{subst e;rw[xk (No.1 h).1,h]};{rw[yf (Ne.symm e)]}
theorem WT.mapEntry(hT:aU C T=true)(p q:Nat){tm et:TypeId}{mo ko:Operand}{i:Nat}{m:cd κ}{key:κ}{r:Row}{z:Value}{B B':List (Nat×aJ)}{aY:bA}{d:Nat}(l:o.op=.mapEntry tm mo ko)(hw:aL ops k o=some true)(j:o.dst=some d)(hn:Nat.blt d n=true)
  (hm:bg C k mo=some (.map (some i))) (hk:bg C k ko=some (K.key key)) (hp:own[p]?=some B) (P:B[q]?=some (i,aJ.map (aP K m))) (hr:rowOf T tm=some r) (hd:r.d=.map t et) (hz:gL T et=some z)
  (hB:xL B q (i,.map (aP K (lE m key z)))=some B') (ho:ku own p B'=some aY)
  (h:WT C n ops rest ((d,.tuple ⟨[(look m key).getD z,.int .i64 (km m key:Nat)]⟩)::k) F aY (λk2 F2 own2 rs=>Q k2 F2 own2 (⟨F,own,F,aY,[]⟩::rs))):WT C n ops (o::rest) k F own Q:=by
 have e1:=gK _ _ _ _ hB;have e2:=cQ _ _ _ _ ho;subst e1;subst e2;have hl:bl (bg C k) o.op=some []:=by{rw[l];rfl};obtain⟨h3,h4⟩:=vj K key m 0;cases g:look m key with| none=>{obtain⟨J,R⟩:=h3 g;refine WT.put (v:=.tuple ⟨[(look m key).getD z,.int .i64 (km m key:Nat)]⟩) (b':=.map (aP K (lE m key z))) p q hp P hw hl (λh0 s0 U=>?_) (by rw[j,aC hn];exact h);rw[l];have e:lE m key z=cE m key z:=by{unfold lE;rw[n0 g]};have hlen:(aP K m).length=m.length:=by{unfold aP;rw[tj]};simp only[aW,hm,hk,eX,dN hT hr hd,U,du K m,K.ok,J,cZ hT hz,e,kY K key z m g,g,R,hlen];rfl}| some v=>{obtain⟨J,R,_⟩:=h4 v g;have aa:=CV m key v g;have I:=Cm K m 0 _ aa;rw[AI] at I J;have e:lE m key z=m:=by{unfold lE;rw[nw (by rw[g];simp)]};have eo:own.set p (B.set q (i,.map (aP K (lE m key z))))=own:=by{rw[e,Cz P,Cz hp]};rw[eo] at h;refine WT.still (v:=.tuple ⟨[(look m key).getD z,.int .i64 (km m key:Nat)]⟩) hw hl (λh0 s0=>?_) (by rw[j,aC hn];exact h);have U:=s0.has hp (Uj P);rw[l];simp only[aW,hm,hk,eX,dN hT hr hd,U,du K m,K.ok,J,R,I,eO,g];rfl}
theorem WT.entryStore(p q:Nat){tm:TypeId}{I J P:Operand}{i:Nat}{m:cd κ}{key:κ}{v0 v:Value}{B R:List (Nat×aJ)}{aY:bA}(g:o.op=.entryStore tm I J P)(hw:aL ops k o=some true)(j:o.dst=none)
  (hm:bg C k I=some (.map (some i))) (hs:bg C k J=some (.int .i64 (km m key:Nat))) (hv:bg C k P=some v) (hp:own[p]?=some B) (hq:B[q]?=some (i,aJ.map (aP K m))) (l:look m key=some v0)
  (hB:xL B q (i,.map (aP K (cE m key v)))=some R) (ho:ku own p R=some aY)
  (h:WT C n ops rest k F aY (λk2 F2 own2 rs=>Q k2 F2 own2 (⟨F,own,F,aY,[]⟩::rs))):WT C n ops (o::rest) k F own Q:=by
 have e1:=gK _ _ _ _ hB;have e2:=cQ _ _ _ _ ho;subst e1;subst e2;obtain⟨h5,h6,h7⟩:=(vj K key m 0).2 v0 l;have r:=CV m key v0 l;have U:=wF K m 0 _ r;rw[AI] at U;refine WT.put (v:=bX) (b':=.map (aP K (cE m key v))) p q hp hq hw (by rw[g];rfl) (λh0 s0 hb=>?_) (by rw[j];exact h);rw[g];simp only[aW,hm,hs,hv,eG,hb,U,du K m,h6,jT K,h7];rfl
theorem iD(hT:aU C T=true){P R:TypeId}{U ko:Operand}{i:Nat}{m2:cd κ}{key:κ}{r:Row}{z v:Value}(l:o.op=.lookup P U ko false)
  (hm:bg C k U=some (.map (some i))) (hk:bg C k ko=some (K.key key)) (hr:rowOf T P=some r) (hd:r.d=.map t R) (hz:gL T R=some z) {p:au} (hb:p.get i=some (.map (aP K m2))) (g:(look m2 key).getD z=v) :
  aW C (bg C k) p o.op=some (.val v p):=by
 rw[l];rcases fD K key m2 0 with ⟨I,J⟩ | ⟨j,v,I,J,_,_⟩;{rw[I] at g;have g:z=v:=g;simp only[aW,hm,hk,gZ,dN hT hr hd,gv,hb,du K m2,K.ok,J,cZ hT hz,g];rfl};{rw[I] at g;simp only[aW,hm,hk,gZ,dN hT hr hd,gv,hb,du K m2,K.ok,J,<-g];rfl}
theorem WT.AJ(hT:aU C T=true)(p:Nat){P R:TypeId}{U ko:Operand}{i:Nat}{m:cd κ}{key:κ}{r:Row}{z:Value}{B:List (Nat×aJ)}{d:Nat}(g:o.op=.lookup P U ko false)(hw:aL ops k o=some true)(I:o.dst=some d)(hn:Nat.blt d n=true)
  (hm:bg C k U=some (.map (some i))) (hk:bg C k ko=some (K.key key)) (hp:own[p]?=some B) (hq:(i,aJ.map (aP K m))∈B) (hr:rowOf T P=some r) (hd:r.d=.map t R) (hz:gL T R=some z)
  (h1:WT C n ops rest ((d,(look m key).getD z)::k) F own (λk2 F2 own2 rs=>Q k2 F2 own2 (@Rec.mk F own F own [i] ⟨λl=>aW C (bg C k) l o.op=some (.val ((look m key).getD z) l)⟩::rs))):WT C n ops (o::rest) k F own Q:=by
 have hl:bl (bg C k) o.op=some [i]:=by{rw[g];simp only[bl,hm]};refine WT.fZ (λl=>aW C (bg C k) l o.op=some (.val ((look m key).getD z) l)) hl λe h j hs=>⟨(look m key).getD z,?_,λl hb=>?_,by rw[I,aC hn];exact h1⟩;{have J:=iD K hT (o:=o) (v:=(look m key).getD z) g hm hk hr hd hz (hs.has hp hq) rfl;exact⟨0,λN _=>gT j hw J _⟩};{have J:=iD K hT (o:=o) (v:=(look m key).getD z) g hm hk hr hd hz (hs.has hp hq) rfl;have e1:=dP j.eval J;have e2:=dP j.eval hb;unfold jt;rw[g] at e1 e2 ⊢;dsimp only;rw[e1,e2];exact eO _}
end
end Go.Abs