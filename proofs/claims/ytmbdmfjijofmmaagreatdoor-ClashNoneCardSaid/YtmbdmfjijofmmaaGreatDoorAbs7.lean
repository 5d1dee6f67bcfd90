/-
  The logic, second part: data in frozen blocks, slices that grow, loops, calls; from contracts to the model.
-/
import Derived.Test.YtmbdmfjijofmmaaGreatDoorAbs6
import Derived.ChangeSlices
import Derived.ChangeArms
import Derived.WideShapes
/-
 How plain data lies in frozen blocks: cells,structs,slices.
-/
set_option linter.unusedVariables false
namespace Go.Abs
open Go
structure Ty(α:Type) where
 size:Nat
 rel:aw->List Value->α->Prop
 len:∀F l x,rel F l x->l.length=size
 one:∀F l x,rel F l x->l.all Go.Abs.one=true
 mono:∀F G l x,aw.le F G->rel F l x->rel G l x
structure a7{α:Type}(R:Ty α)(F:aw)(a:Option Addr)(n c:Nat)(xs:List α):Prop where
 len:n=xs.length
 cap:c=0\/c=R.size
 zero:c=0->n=0
 nil:a=none->n=0/\c=0
 spot:∀p,a=some p->p.spot=none
 el:∀(j:Nat) (x:α),xs[j]?=some x->∃b off ro cs l,a=some ⟨b,off,none⟩/\F b=some (.cells ro cs)/\bE cs (off+j*R.size) R.size=some l/\R.rel F l x
theorem a7.mono{α:Type}{R:Ty α}{F G:aw}{a:Option Addr}{n c:Nat}{xs:List α}(h:a7 R F a n c xs)(f:aw.le F G):a7 R G a n c xs:=
 ⟨h.len,h.cap,h.zero,h.nil,h.spot,λj x g=>
  let ⟨b,off,ro,cs,l,i,o,p,r⟩:=h.el j x g
  ⟨b,off,ro,cs,l,i,f _ _ o,p,R.mono F G l x f r⟩⟩
theorem a7.dF{α:Type}(R:Ty α)(F:aw):a7 R F none 0 0 ([]:List α):=
 ⟨rfl,.inl rfl,λ_=>rfl,λ_=>⟨rfl,rfl⟩,λp h=>(by cases h),λj x h=>(by simp at h)⟩
def fF:Ty Int where
 size:=1
 rel:=λ_ l x=>l=[.int .i64 x]
 len:=λ_ _ _ h=>by rw[h];rfl
 one:=λ_ _ _ h=>by rw[h];rfl
 mono:=λ_ _ _ _ _ h=>h
def fX:Ty Bool where
 size:=1
 rel:=λ_ l x=>l=[.bool x]
 len:=λ_ _ _ h=>by rw[h];rfl
 one:=λ_ _ _ h=>by rw[h];rfl
 mono:=λ_ _ _ _ _ h=>h
def BK:Ty Nat where
 size:=1
 rel:=λ_ l x=>l=[.int .u32 x]
 len:=λ_ _ _ h=>by rw[h];rfl
 one:=λ_ _ _ h=>by rw[h];rfl
 mono:=λ_ _ _ _ _ h=>h
def bR{α:Type}(R:Ty α):Ty (List α) where
 size:=1
 rel:=λF l xs=>∃a n c,l=[.slice a n c]/\a7 R F a n c xs
 len:=λ_ _ _ h=>by obtain⟨a,n,c,rfl,_⟩:=h;rfl
 one:=λ_ _ _ h=>by obtain⟨a,n,c,rfl,_⟩:=h;rfl
 mono:=λ_ _ _ _ f h=>by obtain⟨a,n,c,e,h⟩:=h;exact⟨a,n,c,e,h.mono f⟩
theorem FH{cs:List Value}{off n fo m:Nat}{l r:List Value}(h:bE cs off n=some l)(g:bE l fo m=some r):bE cs (off+fo) m=some r:=by obtain⟨i,p⟩:=fE h;obtain⟨f,j⟩:=fE g;have o:(cs.drop (off+fo)).take m=r:=by{have hm:fo+m<=n\/m=0:=by{have:(l.drop fo).take m=r:=f.symm;have t:r.length<=l.length-fo:=by{rw[f];simp[R5];omega};omega};rcases hm with hm | hm;{rw[f,i,List.drop_take,List.take_take,Up,show min m (n-fo)=m by omega]};{subst hm;rw[f];simp}};unfold bE;simp only[o,j];simp
theorem D8{C:Ctx}{cs l:List Value}{off n fo t:Nat}{v:Value}(h:bE cs off n=some l)(q:fL C l t fo=some v):fL C cs t (off+fo)=some v:=by unfold fL at q |-;cases hu:C.g9 t with|none=>{rw[hu] at q;cases q}|some d=>{rw[hu] at q;simp only at q |-;cases i:uX d with|true=>{rw[i] at q;simp only[xf] at q |-;split at q;{rename_i m hm;cases f:bE l fo m with|none=>{rw[f] at q;cases q}|some o=>{rw[f] at q;rw[FH h f];exact q}};{cases q}}|false=>{rw[i] at q;simp only[zy] at q |-;obtain⟨j,p⟩:=fE h;rw[j] at q;rw[<-q,Sg];have g:fo<n:=by{rcases AT fo n with h | h;{exact h};{rw[Sg,mb (by omega)] at q;cases q}};rw[nw g,Sj]}}
section
variable {C:Ctx}{T:RT}{n:Nat}{k:bY}{F:aw}{own:bH}{ops rest:List Oper}{o:Oper}{Q:bY->aw->bH->List Rec->Prop}{α:Type}{R:Ty α}
theorem WT.idx(hT:aP C T=true){t e:Nat}{r:Row}{I io:Operand}{a:Option Addr}{m c:Nat}{xs:List α}{x:α}{P:IntKind}{j:Int}(f:a7 R F a m c xs)(g:o.op=.indexAddr t I io)(hw:aH ops k o=some true){dst:Nat}(i:o.dst=some dst)(U:Nat.blt dst n=true)
  (hx:aW C k I=some (.slice a m c)) (hi:aW C k io=some (.int P j)) (hr:rowOf T t=some r) (hd:r.d=.slice e) (hs:dW T e=some R.size) (h0:0<=j) (J:xs[j.toNat]?=some x)
  (h:∀b off ro cs l,F b=some (.cells ro cs)->bE cs off R.size=some l->R.rel F l x->
   WT C n ops rest ((dst,(.pointer (some ⟨b,off,none⟩)))::k) F own (λk2 F2 own2 rs=>Q k2 F2 own2 (⟨F,own,F,own,[]⟩::rs))):WT C n ops (o::rest) k F own Q:=by have p:∀v,((dst,v)::k:bY)=eS n k o.dst v:=λv=>by{rw[i,aA U]};simp only[p] at h;obtain⟨b,off,ro,cs,l,rfl,h2,h3,h4⟩:=f.el _ _ J;refine WT.still hw (by rw[g];rfl) (λan _=>?_) (h b (off+j.toNat*R.size) ro cs l h2 h3 h4);rw[g];have ao:j.toNat<xs.length:=(No.1 J).1;have hm:=f.len;simp only[aQ,hx,hi,jh,bz hT hr hd,bI hT hs];rw[nw ⟨h0,by omega⟩];rfl
theorem WT.N7(hT:aP C T=true){t:TypeId}{j:Operand}{b off fo m:Nat}{ro:Bool}{cs l:List Value}{v:Value}(p:F b=some (.cells ro cs))(r:bE cs off m=some l)(i:o.op=.load t j)(hw:aH ops k o=some true){dst:Nat}(f:o.dst=some dst)(I:Nat.blt dst n=true)
  (J:aW C k j=some (.pointer (some ⟨b,off+fo,none⟩))) (P:nQ T l t fo=some v)
  (h:WT C n ops rest ((dst,v)::k) F own (λk2 U own2 rs=>Q k2 U own2 (⟨F,own,F,own,[b]⟩::rs))):WT C n ops (o::rest) k F own Q:=by have g:∀v,((dst,v)::k:bY)=eS n k o.dst v:=λv=>by{rw[f,aA I]};simp only[g] at h;exact WT.wK i hw J p (D8 r (bh hT P)) h
theorem a7.slice{a:Option Addr}{m c:Nat}{xs:List α}(f:a7 R F a m c xs){lo hi:Nat}(i:lo<=hi)(I:hi<=m)(hT:aP C T=true){t e:Nat}{r:Row}(P:rowOf T t=some r)(U:r.d=.slice e)(hs:dW T e=some R.size)
  (vlo vhi:Option Value) (h1:dc vlo 0=some lo) (h2:dc vhi m=some hi) :
  ∃a' c',(∀h,gO C h t (.slice a m c) vlo vhi none=some (.slice a' (hi-lo) c'))/\a7 R F a' (hi-lo) c' ((xs.take hi).drop lo):=by have hn:=f.len;cases a with|none=>{obtain⟨rfl,rfl⟩:=f.nil rfl;have:hi=0:=by{omega};subst this;have:lo=0:=by{omega};subst this;refine⟨none,0,λh=>?_,?_⟩;{have h3:dc none 0=some 0:=rfl;simp only[gO,bz hT P U,bI hT hs,h1,h2,h3];rfl};{have:xs=[]:=D1 (by omega);subst this;exact a7.dF R F}}|some p=>{obtain⟨b,off,sp⟩:=p;have:sp=none:=f.spot _ rfl;subst this;refine⟨some ⟨b,off+lo*R.size,none⟩,c,λh=>?_,?_⟩;{have e1:Nat.ble lo hi=true:=RZ i;have e2:Nat.ble hi m=true:=RZ I;have e3:(c==0||c==R.size)=true:=by{rcases f.cap with rfl | rfl<;>simp};simp only[gO,bz hT P U,bI hT hs,h1,h2,e1,e2,e3,Tk,xf]};{refine⟨by simp;omega,f.cap,λJ=>(by have:=f.zero J;omega),λJ=>(by cases J),λp hp=>(by cases hp;rfl),λj x g=>?_⟩;rw[Sj,Sg] at g;split at g;{obtain⟨b',ae,ro,cs,l,g1,g2,g3,g4⟩:=f.el _ _ g;cases g1;refine⟨b,off+lo*R.size,ro,cs,l,rfl,g2,?_,g4⟩;rw[show off+lo*R.size+j*R.size=off+(lo+j)*R.size by rw[Sq];omega];exact g3};{cases g}}}
theorem WT.slice{t:TypeId}{j:Operand}{lo hi:Option Operand}{x v:Value}{vlo vhi:Option Value}{l:List Nat}(i:o.op=.slice t j lo hi none)(hw:aH ops k o=some true){dst:Nat}(f:o.dst=some dst)(p:Nat.blt dst n=true)(r:bg (aW C k) o.op=some l)(I:aW C k j=some x)
  (J:lO (aW C k) lo=some vlo) (P:lO (aW C k) hi=some vhi) (hs:∀h,gO C h t x vlo vhi none=some v)
  (h:WT C n ops rest ((dst,v)::k) F own (λk2 U own2 rs=>Q k2 U own2 (⟨F,own,F,own,l⟩::rs))):WT C n ops (o::rest) k F own Q:=by have g:∀v,((dst,v)::k:bY)=eS n k o.dst v:=λv=>by{rw[f,aA p]};simp only[g] at h;refine WT.still hw r (λh0 _=>?_) h;rw[i];have h3:lO (aW C k) none=some none:=rfl;simp only[aQ,I,J,P,h3,hs h0];rfl
theorem WT.KM{f:FuncId}{fn:Func}{as:Array Operand}{ts:Array TypeId}{args:List Value}{oin t:bH}{iR:aw->Value->bH->Prop}(I:C.func f=some fn)(J:fn.body.isSome=true)(j:o.op=.call ⟨.value (.func f),as,ts⟩)
  (hw:aH ops k o=some true) {dst:Nat} (l:o.dst=some dst) (P:Nat.blt dst n=true) (U:cZ (aW C k) as.toList=some args) (spec:Spec C f args F oin iR) (i:own.Perm (oin++t))
  (h:∀r v g,aw.le F r->iR r v g->WT C n ops rest ((dst,v)::k) r (g++t) (λk2 F2 own2 rs=>Q k2 F2 own2 (⟨F,own,r,g++t,[]⟩::rs))) :
  WT C n ops (o::rest) k F own Q:=by have p:∀v,((dst,v)::k:bY)=eS n k o.dst v:=λv=>by{rw[l,aA P]};simp only[p] at h;refine WT.call hw (by rw[j];rfl) (λh0=>?_) spec i h;rw[j];simp only[aQ,aW,U,kO,I,J,xf];simp
end
end Go.Abs
/-
 Slices that grow: a slot of one's own holds what has been appended.
-/
set_option linter.unusedVariables false
namespace Go.Abs
open Go
inductive aF{α:Type}(R:Ty α)(F:aw):List Value->List α->Prop
 | nil:aF R F [] []
 | cons {l cs:List Value} {x:α} {xs:List α}:R.rel F l x->aF R F cs xs->aF R F (l++cs) (x::xs)
section
variable {α:Type}{R:Ty α}{F G:aw}
theorem aF.len{cs:List Value}{xs:List α}(h:aF R F cs xs):cs.length=xs.length*R.size:=by induction h with|nil=>{simp}|cons f _ g=>{simp[g,R.len _ _ _ f,Sq];omega}
theorem aF.one{cs:List Value}{xs:List α}(h:aF R F cs xs):cs.all Go.Abs.one=true:=by induction h with|nil=>{rfl}|cons f _ g=>{rw[List.all_append,g,R.one _ _ _ f];rfl}
theorem aF.mono{cs:List Value}{xs:List α}(h:aF R F cs xs)(f:aw.le F G):aF R G cs xs:=by induction h with|nil=>{exact .nil}|cons g _ i=>{exact .cons (R.mono _ _ _ _ f g) i}
theorem aF.append{cs f:List Value}{xs ys:List α}(h:aF R F cs xs)(g:aF R F f ys):aF R F (cs++f) (xs++ys):=by induction h with|nil=>{exact g}|cons i _ j=>{rw[AS];exact .cons i j}
theorem aF.single{l:List Value}{x:α}(h:R.rel F l x):aF R F l [x]:=by have:=aF.cons h (aF.nil (R:=R) (F:=F));simpa using this
theorem aF.at{cs:List Value}{xs:List α}(h:aF R F cs xs):∀(j:Nat) (x:α),xs[j]?=some x->∃l,bE cs (j*R.size) R.size=some l/\R.rel F l x:=by induction h with|nil=>{intro j x h;simp at h}|cons g _ p=>{rename_i l cs y ys _;intro j x f;have i:=R.len _ _ _ g;cases j with|zero=>{simp at f;subst f;refine⟨l,?_,g⟩;unfold bE;simp only[UG,TE];rw[<-i,List.take_left'];{simp};{rfl}}|succ j=>{obtain⟨r,o,t⟩:=p j x (by simpa using f);refine⟨r,?_,t⟩;unfold bE at o |-;have:(l++cs).drop ((j+1)*R.size)=cs.drop (j*R.size):=by{rw[show (j+1)*R.size=l.length+j*R.size by rw[i,Sq];omega,<-Up,List.drop_left]};rw[this];exact o}}
structure cu(R:Ty α)(F:aw)(a:Option Addr)(n c:Nat)(B:List (Nat×aC))(xs:List α):Prop where
 len:n=xs.length
 at_:(xs=[]/\a=none/\c=0/\B=[])\/∃i cs,a=some ⟨i,0,none⟩/\c=R.size/\B=[(i,.cells false cs)]/\aF R F cs xs/\0<R.size
theorem cu.dF(R:Ty α)(F:aw):cu R F none 0 0 [] ([]:List α):=⟨rfl,.inl ⟨rfl,rfl,rfl,rfl⟩⟩
theorem cu.mono{a:Option Addr}{n c:Nat}{B:List (Nat×aC)}{xs:List α}(h:cu R F a n c B xs)(f:aw.le F G):cu R G a n c B xs:=
 ⟨h.len,h.at_.imp id λ⟨i,cs,g,j,l,o,p⟩=>⟨i,cs,g,j,l,o.mono f,p⟩⟩
theorem cu.arr{a:Option Addr}{n c:Nat}{B:List (Nat×aC)}{xs:List α}(h:cu R F a n c B xs)(g:aw.le F G)(o:∀i b,(i,b)∈B->G i=some b):a7 R G a n c xs:=by rcases h.at_ with ⟨rfl,rfl,rfl,rfl⟩ | ⟨i,cs,rfl,rfl,rfl,r,P⟩;{have:=h.len;simp at this;subst this;exact a7.dF R G};{refine⟨h.len,.inr rfl,λf=>by omega,λf=>(by cases f),λp t=>(by cases t;rfl),λj x C=>?_⟩;obtain⟨l,I,J⟩:=(r.mono g).at j x C;exact⟨i,0,false,cs,l,rfl,o i _ (R2 ..),by rw[yo];exact I,J⟩}
end
section
variable {C:Ctx}{T:RT}{n:Nat}{k:bY}{F:aw}{own:bH}{ops rest:List Oper}{o:Oper}{Q:bY->aw->bH->List Rec->Prop}{α:Type}{R:Ty α}
def kz(T:RT)(t:Nat):Option Nat:=match rowOf T t with | some r=>some r.bytes | none=>none
theorem e9(hT:aP C T=true){t m:Nat}(q:kz T t=some m):C.bytes t=some m:=by unfold kz at q;split at q;{rename_i r f;cases q;exact(dD hT f).2.2.1};{cases q}
theorem WT.append(hT:aP C T=true)(p:Nat){B:List (Nat×aC)}{a:Option Addr}{m c d by_:Nat}{xs ys:List α}{I:List Value}{t e:Nat}{ts:List TypeId}{r:Row}{z x:Value}{xo so:Operand}
  (hb:cu R F a m c B xs) (hp:own[p]?=some B) (U:o.op=.call ⟨.builtin .append,⟨[so,xo]⟩,⟨t::ts⟩⟩) (hw:aH ops k o=some true) {dst:Nat} (ac:o.dst=some dst) (hn:Nat.blt dst n=true)
  (hs:aW C k so=some (.slice a m c)) (hx:aW C k xo=some x) (hr:rowOf T t=some r) (hd:r.d=.slice e) (ad:dW T e=some R.size) (hz:gq T e=some z) (ae:kz T e=some by_)
  (P:∀h,St F own h->fV C h e R.size ts.head? x=some (d,I)) (J:aF R F I ys) (hlen:d=ys.length) (g:0<d/\0<R.size/\0<by_) (aa:(m+d)*by_<=140737488355328)
  (h:∀a' c' B',cu R F a' (m+d) c' B' (xs++ys)->WT C n ops rest ((dst,(.slice a' (m+d) c'))::k) F (own.set p B') (λk2 F2 own2 rs=>Q k2 F2 own2 (⟨F,own,F,own.set p B',[]⟩::rs))) :
  WT C n ops (o::rest) k F own Q:=by have af:∀v,((dst,v)::k:bY)=eS n k o.dst v:=λv=>by{rw[ac,aA hn]};simp only[af] at h;have hl:bg (aW C k) o.op=some []:=by{rw[U];rfl};have hv:cZ (aW C k) [so,xo]=some [.slice a m c,x]:=by{simp[cZ,hs,hx]};have l:∀ln,ln=m->(!(I.length==d*R.size&&I.all one&&Nat.blt 0 R.size&&Nat.blt 0 by_&&Nat.ble ((ln+d)*by_) 140737488355328))=false:=by{intro ln av;subst av;have h1:(I.length==d*R.size)=true:=by{rw[J.len,hlen];simp};have h2:Nat.blt 0 R.size=true:=RZ g.2.1;have h3:Nat.blt 0 by_=true:=RZ g.2.2;have h4:Nat.ble ((ln+d)*by_) 140737488355328=true:=RZ aa;rw[h1,h2,h3,h4,J.one];rfl};have ag:(d==0)=false:=by{have:=g.1;cases d with | zero=>omega | succ d=>rfl};have f:=hb.len;rcases hb.at_ with ⟨rfl,rfl,rfl,rfl⟩ | ⟨i,cs,rfl,rfl,rfl,h4,h5⟩;{simp at f;subst f;refine WT.fill (mk:=λi=>.slice (some ⟨i,0,none⟩) (0+d) R.size) (b:=.cells false I) p hp hw hl (λh0 s0=>?_) (λi hi=>h _ _ _ ⟨by simp;exact hlen,.inr ⟨i,I,rfl,rfl,rfl,by simpa using J,g.2.1⟩⟩);rw[U];simp only[aQ,hv,bD,dP,bz hT hr hd,bI hT ad,cT hT hz,e9 hT ae,P h0 s0,l 0 rfl,ag,zy];simp};{refine WT.move (mk:=λi=>.slice (some ⟨i,0,none⟩) (m+d) R.size) (b:=.cells false cs) (b':=.cells false (cs++I)) p hp hw hl (λh0 s0 hg=>?_) (λj hj=>h _ _ _ ⟨by simp;omega,.inr ⟨j,cs++I,rfl,rfl,rfl,h4.append J,h5⟩⟩);rw[U];have a0:(R.size==0)=false:=by{simp;omega};have a1:(!(R.size==R.size))=false:=by{simp};have ab:bE cs 0 (m*R.size)=some cs:=by{unfold bE;have:cs.length=m*R.size:=by{rw[h4.len,f]};simp[<-this]};simp only[aQ,hv,bD,dP,bz hT hr hd,bI hT ad,cT hT hz,e9 hT ae,P h0 s0,l m rfl,ag,zy,a0,a1,hg,ab];rfl}
theorem WT.buildSlice(hT:aP C T=true){t e len f:Nat}{ps:Array (Nat×Operand)}{vs:List (Nat×Value)}{r:Row}{z:Value}{cs:List Value}(j:o.op=.buildSlice t len ps)(hw:aH ops k o=some true){dst:Nat}(l:o.dst=some dst)(U:Nat.blt dst n=true)
  (I:fw (aW C k) ps.toList=some vs) (hr:rowOf T t=some r) (hd:r.d=.slice e) (J:dW T e=some f) (hz:gq T e=some z) (P:(Nat.ble (len*f) 16777216&&Nat.blt 0 f)=true)
  (g:lZ (λi=>some (i*f,f)) (dy z.cells.toList len) vs=some cs)
  (h:∀i,F i=none->WT C n ops rest ((dst,(.slice (some ⟨i,0,none⟩) len (bif len==0 then 0 else f)))::k) F ([(i,.cells false cs)]::own) (λk2 F2 own2 rs=>Q k2 F2 own2 (⟨F,own,F,[(i,.cells false cs)]::own,[]⟩::rs))) :
  WT C n ops (o::rest) k F own Q:=by have p:∀v,((dst,v)::k:bY)=eS n k o.dst v:=λv=>by{rw[l,aA U]};simp only[p] at h;refine WT.new (mk:=λi=>.slice (some ⟨i,0,none⟩) len (bif len==0 then 0 else f)) hw (by rw[j];rfl) (λh0 _=>?_) h;rw[j];simp only[aQ,I,eI,bz hT hr hd,bI hT J,cT hT hz,P,xf,g];rfl
theorem aT(hT:aP C T=true){h:au}(s:St F own h)(q:Nat){i:Nat}{ro:Bool}{cs:List Value}{e g len c t I:Nat}{r:Row}(J:own[q]?=some [(i,.cells ro cs)])(j:rowOf T t=some r)(l:r.d=.slice I)
  (P:cs.length=len*g):fV C h e g (some t) (.slice (some ⟨i,0,none⟩) len c)=some (len,cs):=by have U:h.get i=some (.cells ro cs):=s.has J (R2 ..);have f:bE cs 0 (len*g)=some cs:=by{unfold bE;simp[<-P]};by_cases p:len=0;{subst p;have:cs=[]:=D1 (by omega);subst this;simp[fV,bz hT j l,cS,gP,eg]};{simp only[fV,bz hT j l,cS,gP,eg,eW,U,f,show (len==0)=false by simpa using p];rfl}
theorem dm.uJ{d:Nat}{v:Value}(g:lk k d=some v):dm ((d,v)::k) k:=by intro j u q;simp only[lk] at q;cases f:Nat.beq d j with|true=>{rw[f] at q;have:=R6 f;subst this;cases q;exact g}|false=>{rw[f] at q;exact q}
theorem WT.split(d:Nat){v:Bool}(f:lk k d=some (.bool v))(g:v=true->WT C n ops rest ((d,.bool true)::k) F own Q)(i:v=false->WT C n ops rest ((d,.bool false)::k) F own Q):WT C n ops rest k F own Q:=by cases v with|true=>{exact WT.weaken (dm.uJ f) (g rfl)}|false=>{exact WT.weaken (dm.uJ f) (i rfl)}
theorem AW.split{c:Code}{A:Ex->bY->aw->bH->Prop}(d:Nat){v:Bool}(f:lk k d=some (.bool v))(g:v=true->AW C n c ((d,.bool true)::k) F own A)(i:v=false->AW C n c ((d,.bool false)::k) F own A):AW C n c k F own A:=by cases v with|true=>{exact AW.weaken (dm.uJ f) (g rfl)}|false=>{exact AW.weaken (dm.uJ f) (i rfl)}
end
end Go.Abs
/-
 Loops: what changes in a round;loops over a range.
-/
set_option linter.unusedVariables false
namespace Go.Abs
open Go
theorem KD:∀(k:bY) (i:Nat) (v:Value),lk k i=some v->i∈k.map (·.1)
 | [],_,_,q=>by cases q
 | (j,u)::k,i,v,q=>by{simp only[lk] at q;cases f:Nat.beq j i with|true=>{rw[R6 f];simp}|false=>{rw[f] at q;exact ma _ (KD k i v q)}}
theorem dm.of_map{k2 k:bY}(h:(k2.map (·.1)).map (lk k)=(k2.map (·.1)).map (lk k2)):dm k2 k:=by intro i v q;have hm:=KD k2 i v q;have:∀(l:List Nat),l.map (lk k)=l.map (lk k2)->∀i∈l,lk k i=lk k2 i:=by{intro l;induction l with|nil=>{intro _ i hi;cases hi}|cons a l f=>{intro he i hi;simp only[y2,Te] at he;rcases IN.1 hi with rfl | hi;{exact he.1};{exact f he.2 i hi}}};rw[this _ h i hm,q]
theorem dm.refl(k:bY):dm k k:=λ_ _ q=>q
theorem dm.trans{a b c:bY}(f:dm a b)(g:dm b c):dm a c:=λi v q=>g i v (f i v q)
def ah(own2 own:bH):Prop:=∃l:List (Nat×aC),l.Sublist own.flatten/\l.Perm own2.flatten
theorem ah.refl(own:bH):ah own own:=⟨_,Sa _,ri _⟩
theorem ah.sub{own2 own:bH}(h:own2.Sublist own):ah own2 own:=⟨_,vH h,ri _⟩
theorem ah.perm{own2 own:bH}(h:own.Perm own2):ah own2 own:=⟨_,Sa _,Um h⟩
theorem ah.flat{own2 own:bH}(h:own.flatten.Perm own2.flatten):ah own2 own:=⟨_,Sa _,h⟩
theorem CV{α:Type}{l m p:List α}(h:l.Sublist m)(t:m.Perm p):∃f,f.Sublist p/\l.Perm f:=by induction t generalizing l with|nil=>{exact⟨l,h,ri _⟩}|cons a _ r=>{cases h with|cons _ h=>{obtain⟨f,g,i⟩:=r h;exact⟨f,g.cons a,i⟩}| cons_cons _ h=>{obtain⟨f,g,i⟩:=r h;exact⟨a::f,g.cons_cons a,i.cons a⟩}}| swap a b m=>{cases h with|cons _ h=>{cases h with|cons _ h=>{exact⟨l,(h.cons b).cons a,ri _⟩}| cons_cons _ h=>{exact⟨_,(h.cons b).cons_cons a,ri _⟩}}| cons_cons _ h=>{cases h with|cons _ h=>{exact⟨_,(h.cons_cons b).cons a,ri _⟩}| cons_cons _ h=>{exact⟨_,(h.cons_cons b).cons_cons a,List.Perm.swap ..⟩}}}| trans _ _ j o=>{obtain⟨P,g,i⟩:=j h;obtain⟨C,I,J⟩:=o g;exact⟨C,I,i.trans J⟩}
theorem ah.trans{a b c:bH}(f:ah a b)(g:ah b c):ah a c:=by obtain⟨l,i,j⟩:=f;obtain⟨m,o,p⟩:=g;obtain⟨r,t,C⟩:=CV i p.symm;exact⟨r,t.trans o,C.symm.trans j⟩
theorem ah.cons{a b:bH}(B:List (Nat×aC))(h:ah a b):ah (B::a) (B::b):=by obtain⟨l,f,g⟩:=h;exact⟨B++l,by simp only[So];exact(Sa B).append f,by simp only[So];exact g.append_left B⟩
theorem ah.skip{a b:bH}(B:List (Nat×aC))(h:ah a b):ah a (B::b):=h.trans (ah.sub (Tm ..))
theorem St.le{F:aw}{own own2:bH}{h:au}(s:St F own h)(f:ah own2 own):St F own2 h:=by obtain⟨l,g,i⟩:=f;exact kT.perm (kT.sub s g) i
theorem St.nh{F G:aw}{own:bH}{h:au}(s:St G own h)(g:aw.le F G):St F own h:=
 ⟨λi b q=>s.z4 i b (g i b q),λp f=>kT.has s p f,λp f=>(by{have:=kT.apart s p f;cases j:F p.1 with|none=>{rfl}|some b=>{rw[g _ _ j] at this;cases this}}),kT.nodup s,s.wf⟩
section
variable {C:Ctx}{n:Nat}{k:bY}{F:aw}{own:bH}{A:Ex->bY->aw->bH->Prop}
theorem AW.le{c:Code}{own2:bH}(g:ah own2 own)(h:AW C n c k F own2 A):AW C n c k F own A:=λe i f hs=>h e i f (hs.le g)
theorem WT.le{ops rest:List Oper}{Q:bY->aw->bH->List Rec->Prop}{own2:bH}(g:ah own2 own)(h:WT C n ops rest k F own2 Q):WT C n ops rest k F own Q:=λe i f hs=>h e i f (hs.le g)
theorem AW.cr{S:Type}(f:S->bY)(l:S->bH)(P:S->aw->Prop)(m:S->Nat){c:Code}(o:S)
  (hk:dm (f o++k) k) (ho:ah (l o) own) (hP:P o F)
  (step:∀s i,aw.le F i->P s i->AW C n c (f s++k) i (l s) (vW (λk' r be=>∃g,m g<m s/\dm (f g++k) k'/\ah (l g) be/\P g r) A)) :
  AW C n (.loop c) k F own A:=by have main:AW C n (.loop c) (f o++k) F (l o) A:=by{refine AW.loop (λs k' i be=>k'=f s++k/\be=l s/\aw.le F i/\P s i) m ?_ o _ _ _ ⟨rfl,rfl,aw.le.refl F,hP⟩;rintro s _ i _ ⟨rfl,rfl,hF,hp⟩;intro e h0 t I;obtain⟨x,J,R,U,F1,j,h2,h3,p,h5,h6⟩:=step s i hF hp e h0 t I;cases x with|normal=>{obtain⟨g,q1,q2,q3,q4⟩:=h6;exact⟨.normal,J,R,U,F1,l g,h2,h3,p,h5.le q3,g,f g++k,l g,q1,q2,Sa _,rfl,rfl,hF.trans p,q4⟩}|exit id=>{exact⟨.exit id,J,R,U,F1,j,h2,h3,p,h5,h6⟩}|ret=>{exact⟨.ret,J,R,U,F1,j,h2,h3,p,h5,h6⟩}};exact AW.weaken hk (AW.le ho main)
def Ln{S:Type}(g:Nat)(p j:Nat)(l:S->bY)(k:bY)(r:S->bH)(P:Nat->S->aw->Prop)(A:Ex->bY->aw->bH->Prop):Ex->bY->aw->bH->Prop
 | .normal,k',f,be=>∃o,dm ((p,.int .i64 j)::(l o++k)) k'/\ah (r o) be/\P (j+1) o f
 | .exit i,k',f,be=>A (bif i==g then .normal else .exit i) k' f be
 | .ret,k',f,be=>A .ret k' f be
theorem AW.range{S:Type}(g:S->bY)(ow:S->bH)(P:Nat->S->aw->Prop)(m:Nat)(s0:S)
  {o t r1 r2 f tl tc J t1 t2 t3 t4:Nat} {body:Code} {o1 o2 o3:Oper}
  (ao:o1.op=.binOp .lss t1 (.tmp f) (.tmp tl) t2) (a4:o1.dst=some tc) (a5:o1.guard=none)
  (a8:o2.op=.binOp .add t3 (.tmp f) (.const (.int .i64 1)) t4) (a9:o2.dst=some J) (ba:o2.guard=none)
  (ap:o3.op=.move (.tmp J)) (bb:o3.dst=some f) (bc:o3.guard=none)
  (hm:m<=9223372036854775807) (hn:(Nat.blt f n&&Nat.blt tc n&&Nat.blt J n)=true)
  (ar:(Nat.beq f J||Nat.beq tc f||Nat.beq tl f)=false)
  (hl:∀s,lk (g s++k) tl=some (.int .i64 m)) (hj:∀s,lk (g s++k) J=none)
  (hk:dm ((f,.int .i64 0)::(g s0++k)) k) (ho:ah (ow s0) own) (hP:P 0 s0 F)
  (step:∀j s r,aw.le F r->j<m->P j s r->AW C n body ((tc,.bool true)::(f,.int .i64 j)::(g s++k)) r (ow s) (um t (Ln o f j g k ow P A)))
  (done:∀s r,aw.le F r->P m s r->A .normal ((tc,.bool false)::(f,.int .i64 m)::(g s++k)) r (ow s)) :
  AW C n (.block o (.loop (.seq (.region r1 ⟨[o1]⟩ false) (.seq (.cond (.tmp tc) .skip (.exit o)) (.seq (.block t body) (.region r2 ⟨[o2,o3]⟩ false)))))) k F own A:=by simp only[ti] at hn;simp only[Bool.or_eq_false_iff] at ar;obtain⟨⟨bd,bf⟩,bi⟩:=hn;obtain⟨⟨b0,b1⟩,ab⟩:=ar;have av:∀k v,eS n k (some f) v=(f,v)::k:=λk v=>by{simp only[eS,bd,xf]};have ax:∀k v,eS n k (some tc) v=(tc,v)::k:=λk v=>by{simp only[eS,bf,xf]};have az:∀k v,eS n k (some J) v=(J,v)::k:=λk v=>by{simp only[eS,bi,xf]};have R:Nat.beq f f=true:=Uo f;have a0:Nat.beq tc tc=true:=Uo tc;have a1:Nat.beq J J=true:=Uo J;have U:Nat.beq f tl=false:=by{cases h:Nat.beq f tl with|false=>{rfl}|true=>{rw[R6 h,Uo] at ab;cases ab}};refine AW.block ?_;let st:Nat×S->bY:=λp=>(f,.int .i64 p.1)::(g p.2++k);have main:AW C n (.loop (.seq (.region r1 ⟨[o1]⟩ false) (.seq (.cond (.tmp tc) .skip (.exit o)) (.seq (.block t body) (.region r2 ⟨[o2,o3]⟩ false))))) ((f,.int .i64 0)::(g s0++k)) F (ow s0) (um o A):=by{refine AW.loop (λ(p:Nat×S) k' r be=>k'=st p/\be=ow p.2/\aw.le F r/\p.1<=m/\P p.1 p.2 r) (λp=>m-p.1) ?_ (0,s0) _ _ _ ⟨rfl,rfl,aw.le.refl F,BY _,hP⟩;rintro⟨j,s⟩ _ r _ ⟨rfl,rfl,hF,bn,hp⟩;simp only at bn hp;refine AW.seq (AW.fj ?_);refine WT.still (v:=.bool (decide ((j:Int)<m))) (l:=[]) (by simp only[aH,a5]) ?_ (λh0 _=>?_) ?_;{rw[ao];simp only[bg,aW,st,lk,R,xf,U,zy,hl];rfl};{rw[ao];simp only[aQ,aW,st,lk,R,xf,U,zy,hl,jL,SN,dO];rfl};refine WT.nil ?_;show AW C n _ _ _ _ _;rw[a4,ax];refine AW.seq (AW.cond (v:=decide ((j:Int)<m)) (by simp only[aW,lk,a0,xf]) (λhc=>?_) (λhc=>?_));{have hc:j<m:=by{have:=SU hc;omega};refine AW.skip ?_;show AW C n _ _ _ _ _;refine AW.seq (AW.block ?_);have hd:decide ((j:Int)<m)=true:=by{simp;omega};rw[hd];refine AW.mono (step j s r hF hc hp) ?_;intro x k' a2 be a3 hx;have fin:Ln o f j g k ow P A .normal k' a2 be->AW C n (.region r2 ⟨[o2,o3]⟩ false) k' a2 be (vW (λk' r be=>∃(I:Nat×S),∃k2 own2,m-I.1<m-j/\dm k2 k'/\own2.Sublist be/\k2=st I/\own2=ow I.2/\aw.le F r/\I.1<=m/\P I.1 I.2 r) (um o A)):=by{rintro⟨s',q1,q2,q3⟩;refine AW.weaken q1 (AW.le q2 (AW.fj ?_));refine WT.add (x:=j) (y:=1) a8 (by simp only[aH,ba]) (by simp only[aW,lk,R,xf]) (by simp only[aW,plain,xf]) (by omega) ?_;rw[a9,az];refine WT.still (v:=.int .i64 (j+1)) (l:=[]) (by simp only[aH,bc]) ?_ (λh0 _=>?_) ?_;{rw[ap];rfl};{rw[ap];simp only[aQ,aW,lk,a1,xf];rfl};rw[bb,av];refine WT.nil ⟨(j+1,s'),st (j+1,s'),ow s',by simp only;omega,?_,Sa _,rfl,rfl,hF.trans a3,by simp only;omega,q3⟩;intro i v q;simp only[st,lk] at q |-;cases hb:Nat.beq f i with|true=>{rw[hb] at q;simpa using q}|false=>{rw[hb] at q;simp only[zy] at q |-;cases bt:Nat.beq J i with|true=>{have:=R6 bt;subst this;rw[hj] at q;cases q}|false=>{exact q}}};cases x with|normal=>{exact fin hx}|ret=>{exact hx}|exit i=>{simp only[um] at hx |-;cases hi:(i==t) with|true=>{rw[hi] at hx;exact fin hx}|false=>{rw[hi] at hx;exact hx}}};{have hc:j=m:=by{have:=of_decide_eq_false hc;omega};subst hc;have hd:decide ((j:Int)<j)=false:=by{simp};rw[hd];refine AW.exit ?_;simp only[vW,um];have:(o==o)=true:=by{simp};rw[this];exact done s r hF hp}};exact AW.weaken hk (AW.le ho main)
end
end Go.Abs
/-
 More rules: elements by their place,equality of structs,bits.
-/
set_option linter.unusedVariables false
namespace Go.Abs
open Go
def mr(T:RT)(eq:TypeId->Value->Value->Option Bool):List (Nat×Nat)->List Value->List Value->Option Bool
 | [],_,_=>some true
 | (off,f)::g,xs,ys=>
  match nQ T xs f off,nQ T ys f off with
  | some a,some b=>match eq f a b,mr T eq g xs ys with
   | some p,some q=>some (p&&q)
   | _,_=>none
  | _,_=>none
def MT(C:Ctx)(T:RT):Nat->TypeId->Value->Value->Option Bool
 | 0,_,_,_=>none
 | n+1,t,x,y=>
  match rowOf T t with
  | some r=>match r.d,x,y with
   | .struct f,.agg ⟨xs⟩,.agg ⟨ys⟩=>bif C.flat t then mr T (MT C T n) f xs ys else none
   | .int _,.int k a,.int k' b=>if k=k' then some (a==b) else none
   | .string,.string a,.string b=>some (a==b)
   | .bool,.bool a,.bool b=>some (a==b)
   | _,_,_=>none
  | none=>none
section
variable {C:Ctx}{T:RT}(hT:aP C T=true)
include hT
theorem mY{g i:TypeId->Value->Value->Option Bool}(he:∀t x y b,g t x y=some b->i t x y=some b):∀(j:List Field) (xs ys:List Value) (b:Bool),
  mr T g (j.map λf=>(f.offset,f.type)) xs ys=some b->eqFields C i j xs ys=some b
 | [],xs,ys,b,q=>q
 | f::j,xs,ys,b,q=>by{simp only[y2,mr] at q;split at q;{rename_i u v hu l;split at q;{rename_i p r o I;cases q;unfold eqFields;rw[bh hT hu,bh hT l];simp only[he _ _ _ _ o];cases p with|true=>{simpa using mY he j xs ys r I}|false=>{rfl}};{cases q}};{cases q}}
theorem kN{t:Nat}{r:Row}(q:rowOf T t=some r)(g:r.d=.string):C.g9 t=some .string:=by (obtain⟨_,_,_,_,d,i,f⟩:=dD hT q;rw[g] at f;cases d<;>first | (cases f;done) | skip);rw[i]
theorem tu{t:Nat}{r:Row}(q:rowOf T t=some r)(g:r.d=.bool):C.g9 t=some .bool:=by (obtain⟨_,_,_,_,d,i,f⟩:=dD hT q;rw[g] at f;cases d<;>first | (cases f;done) | skip);rw[i]
theorem Cl:∀(n:Nat) (t:TypeId) (x y:Value) (b:Bool),MT C T n t x y=some b->qv C n t x y=some b
 | 0,_,_,_,_,q=>by cases q
 | n+1,t,x,y,b,q=>by{unfold MT at q;split at q;{rename_i r g;split at q;{rename_i o xs ys f;obtain⟨l,hu,i⟩:=gr hT g f;cases j:C.flat t with|false=>{rw[j] at q;cases q}|true=>{rw[j] at q;simp only[xf] at q;unfold qv;simp only[hu,j,xf];rw[i] at q;exact mY hT (Cl n) _ _ _ _ q}};{rename_i p k a k' b' f;have hu:=tL hT g f;unfold qv;simp only[hu,fH];exact q};{rename_i a b' f;have hu:=kN hT g f;unfold qv;simp only[hu,fH];rw[<-q]};{rename_i a b' f;have hu:=tu hT g f;unfold qv;simp only[hu,fH];rw[<-q]};{cases q}};{cases q}}
theorem AD{h:au}{t:TypeId}{xs ys:List Value}{b:Bool}(q:MT C T 8 t (.agg ⟨xs⟩) (.agg ⟨ys⟩)=some b):equalA C h t (.agg ⟨xs⟩) (.agg ⟨ys⟩)=some b:=by have i:=Cl hT 8 t _ _ b q;unfold MT at q;split at q;{rename_i r j;split at q;{rename_i I _ _ l _ _;obtain⟨o,hu,p⟩:=gr hT j l;unfold equalA;rw[hu];exact i};{rename_i f g;cases f};{rename_i f g;cases f};{rename_i f g;cases f};{cases q}};{cases q}
omit hT in
theorem v7{t:TypeId}{xs ys:List Value}{b:Bool}(q:MT C T 8 t (.agg ⟨xs⟩) (.agg ⟨ys⟩)=some b):C.flat t=true:=by unfold MT at q;split at q;{split at q;{cases i:C.flat t with|false=>{rw[i] at q;cases q}|true=>{rfl}};{rename_i f g;cases f};{rename_i f g;cases f};{rename_i f g;cases f};{cases q}};{cases q}
end
section
variable {C:Ctx}{T:RT}{n:Nat}{k:bY}{F:aw}{own:bH}{ops rest:List Oper}{o:Oper}{Q:bY->aw->bH->List Rec->Prop}{α:Type}{R:Ty α}
theorem WT.Rs(hT:aP C T=true){t ty:TypeId}{j l:Operand}{xs ys:List Value}{b:Bool}(f:o.op=.binOp .eql t j l ty)(hw:aH ops k o=some true){dst:Nat}(g:o.dst=some dst)(I:Nat.blt dst n=true)
  (p:aW C k j=some (.agg ⟨xs⟩)) (r:aW C k l=some (.agg ⟨ys⟩)) (he:MT C T 8 t (.agg ⟨xs⟩) (.agg ⟨ys⟩)=some b)
  (h:WT C n ops rest ((dst,(.bool b))::k) F own (λk2 J own2 rs=>Q k2 J own2 (⟨F,own,F,own,[]⟩::rs))):WT C n ops (o::rest) k F own Q:=by have i:∀v,((dst,v)::k:bY)=eS n k o.dst v:=λv=>by{rw[g,aA I]};simp only[i] at h;refine WT.still hw (by rw[f];simp only[bg,p,r];rfl) (λP _=>?_) h;rw[f];simp only[aQ,p,r,jL,iT,v7 he,AD hT he,xf,Si]
theorem WT.Rr(hT:aP C T=true){t ty:TypeId}{j l:Operand}{xs ys:List Value}{b:Bool}(f:o.op=.binOp .neq t j l ty)(hw:aH ops k o=some true){dst:Nat}(g:o.dst=some dst)(I:Nat.blt dst n=true)
  (p:aW C k j=some (.agg ⟨xs⟩)) (r:aW C k l=some (.agg ⟨ys⟩)) (he:MT C T 8 t (.agg ⟨xs⟩) (.agg ⟨ys⟩)=some b)
  (h:WT C n ops rest ((dst,(.bool !b))::k) F own (λk2 J own2 rs=>Q k2 J own2 (⟨F,own,F,own,[]⟩::rs))):WT C n ops (o::rest) k F own Q:=by have i:∀v,((dst,v)::k:bY)=eS n k o.dst v:=λv=>by{rw[g,aA I]};simp only[i] at h;refine WT.still hw (by rw[f];simp only[bg,p,r];rfl) (λP _=>?_) h;rw[f];simp only[aQ,p,r,jL,iT,v7 he,AD hT he,xf,Si]
theorem WT.bk(hT:aP C T=true){t e:Nat}{r:Row}{p io:Operand}{a:Option Addr}{m c:Nat}{xs:List α}{J:IntKind}{j:Nat}(g:a7 R F a m c xs)(i:o.op=.indexAddr t p io)(hw:aH ops k o=some true){dst:Nat}(f:o.dst=some dst)(P:Nat.blt dst n=true)
  (U:aW C k p=some (.slice a m c)) (hi:aW C k io=some (.int J (j:Nat))) (hr:rowOf T t=some r) (hd:r.d=.slice e) (hs:dW T e=some R.size) (I:j<xs.length)
  (h:∀x,xs[j]?=some x->∀b off ro cs l,F b=some (.cells ro cs)->bE cs off R.size=some l->R.rel F l x->
   WT C n ops rest ((dst,(.pointer (some ⟨b,off,none⟩)))::k) F own (λk2 F2 own2 rs=>Q k2 F2 own2 (⟨F,own,F,own,[]⟩::rs))):WT C n ops (o::rest) k F own Q:=
 WT.idx hT (x:=xs[j]) (j:=(j:Int)) g i hw f P U hi hr hd hs (TF j) (by simp[I]) (h _ (Sn I))
theorem WT.N8{t ty:TypeId}{i j:Operand}{x y:Int}(g:o.op=.binOp .mul t i j ty)(hw:aH ops k o=some true){dst:Nat}(f:o.dst=some dst)(l:Nat.blt dst n=true)(p:aW C k i=some (.int .i64 x))(r:aW C k j=some (.int .i64 y))
  (I:-9223372036854775808<=x*y/\x*y<=9223372036854775807)
  (h:WT C n ops rest ((dst,.int .i64 (x*y))::k) F own (λk2 J own2 rs=>Q k2 J own2 (⟨F,own,F,own,[]⟩::rs))):WT C n ops (o::rest) k F own Q:=
 WT.mul g hw p r I (by rw[f,aA l];exact h)
theorem WT.Qq{t ty:TypeId}{i j:Operand}{x y:Int}(g:o.op=.binOp .rem t i j ty)(hw:aH ops k o=some true){dst:Nat}(f:o.dst=some dst)(l:Nat.blt dst n=true)(p:aW C k i=some (.int .i64 x))(r:aW C k j=some (.int .i64 y))
  (I:y≠0)
  (h:WT C n ops rest ((dst,.int .i64 (x.tmod y))::k) F own (λk2 J own2 rs=>Q k2 J own2 (⟨F,own,F,own,[]⟩::rs))):WT C n ops (o::rest) k F own Q:=
 WT.rem g hw p r I (by rw[f,aA l];exact h)
theorem WT.Qs{t ty:TypeId}{i j:Operand}{x y:Int}(g:o.op=.binOp .quo t i j ty)(hw:aH ops k o=some true){dst:Nat}(f:o.dst=some dst)(l:Nat.blt dst n=true)(p:aW C k i=some (.int .i64 x))(r:aW C k j=some (.int .i64 y))
  (I:y≠0/\-9223372036854775808<=x.tdiv y/\x.tdiv y<=9223372036854775807)
  (h:WT C n ops rest ((dst,.int .i64 (x.tdiv y))::k) F own (λk2 J own2 rs=>Q k2 J own2 (⟨F,own,F,own,[]⟩::rs))):WT C n ops (o::rest) k F own Q:=
 WT.quo g hw p r I (by rw[f,aA l];exact h)
theorem sI{x:Int}(h:0<=x/\x<4294967296):IntKind.u32.wrap x=x:=by have hs:IntKind.u32.signed=false:=rfl;have f:IntKind.u32.bits=32:=rfl;simp only[IntKind.wrap,hs,f,Uq];have:(2:Int) ^ 32=4294967296:=rfl;rw[this];simp;omega
theorem Iv{x:Nat}(h:x<4294967296):(BitVec.ofInt 32 (x:Int)).toNat=x:=by simp;omega
theorem y5{x y:Nat}(f:x<4294967296)(g:y<4294967296):IntKind.u32.wrap ((BitVec.ofInt IntKind.u32.bits (x:Int) ||| BitVec.ofInt IntKind.u32.bits (y:Int)).toNat:Int)=((x ||| y:Nat):Int):=by have i:IntKind.u32.bits=32:=rfl;have j:x ||| y<4294967296:=Tx (n:=32) f g;rw[i,BitVec.toNat_or,Iv f,Iv g,sI (by omega)]
theorem my{x y:Nat}(g:x<4294967296)(f:y<4294967296):IntKind.u32.wrap ((BitVec.ofInt IntKind.u32.bits (x:Int) &&& BitVec.ofInt IntKind.u32.bits (y:Int)).toNat:Int)=((x &&& y:Nat):Int):=by have i:IntKind.u32.bits=32:=rfl;have j:x &&& y<4294967296:=Nat.and_lt_two_pow (n:=32) x f;rw[i,BitVec.toNat_and,Iv g,Iv f,sI (by omega)]
def andNot(x y:Nat):Nat:=x &&& (4294967295-y)
theorem oN{x y:Nat}(f:x<4294967296)(g:y<4294967296):IntKind.u32.wrap ((BitVec.ofInt IntKind.u32.bits (x:Int) &&& ~~~BitVec.ofInt IntKind.u32.bits (y:Int)).toNat:Int)=((andNot x y:Nat):Int):=by have i:IntKind.u32.bits=32:=rfl;have j:(~~~BitVec.ofInt 32 (y:Int)).toNat=4294967295-y:=by{rw[BitVec.toNat_not,Iv g]};have l:andNot x y<4294967296:=by{unfold andNot;exact Nat.and_lt_two_pow (n:=32) x (by omega)};rw[i,BitVec.toNat_and,j,Iv f];exact sI (by unfold andNot at l;omega)
theorem oD{x y:Nat}(f:x<4294967296)(g:y<4294967296)(j:Nat):(andNot x y).testBit j=(x.testBit j&&!y.testBit j):=by unfold andNot;have i:(4294967295-y).testBit j=(decide (j<32)&&!y.testBit j):=by{have:=Nat.testBit_two_pow_sub_succ (n:=32) (x:=y) g j;rw[<-this];congr 1;omega};rw[UX,i];rcases AT j 32 with h | h;{simp[h]};{have:x.testBit j=false:=Tl (Sk f (R4 (by decide) h:2 ^ 32<=2 ^ j));simp[this]}
theorem jD{x y:Nat}(g:x<4294967296)(i:y<4294967296):andNot x y=0↔∀j,x.testBit j=true->y.testBit j=true:=by constructor;{intro h j f;have:=oD g i j;rw[h,f] at this;simpa using this.symm};{intro h;apply TJ;intro j;rw[oD g i];cases f:x.testBit j with|false=>{simp}|true=>{simp[h j f]}}
theorem WT.J4{op:BinOp}{t ty:TypeId}{l p:Operand}{x y r:Nat}(j:o.op=.binOp op t l p ty)(hw:aH ops k o=some true){dst:Nat}(g:o.dst=some dst)(I:Nat.blt dst n=true)(J:aW C k l=some (.int .u32 x))(P:aW C k p=some (.int .u32 y))
  (U:dO op .u32 x y=some (.int .u32 (r:Nat))) (f:op≠.shl/\op≠.shr)
  (h:WT C n ops rest ((dst,(.int .u32 (r:Nat)))::k) F own (λk2 F2 own2 rs=>Q k2 F2 own2 (⟨F,own,F,own,[]⟩::rs))):WT C n ops (o::rest) k F own Q:=by have i:∀v,((dst,v)::k:bY)=eS n k o.dst v:=λv=>by{rw[g,aA I]};simp only[i] at h;refine WT.bin j hw J P ?_ f h;cases op<;>first | exact absurd rfl f.1 | exact absurd rfl f.2 | (simp only[jL,SN];exact U)
theorem WT.y5{t ty:TypeId}{i j:Operand}{x y:Nat}(g:o.op=.binOp .or t i j ty)(hw:aH ops k o=some true){dst:Nat}(f:o.dst=some dst)(l:Nat.blt dst n=true)(p:aW C k i=some (.int .u32 x))(r:aW C k j=some (.int .u32 y))(I:x<4294967296)(by_:y<4294967296)
  (h:WT C n ops rest ((dst,(.int .u32 ((x ||| y:Nat):Int)))::k) F own (λk2 J own2 rs=>Q k2 J own2 (⟨F,own,F,own,[]⟩::rs))):WT C n ops (o::rest) k F own Q:=
 WT.J4 g hw f l p r (by simp only[dO,Go.Abs.y5 I by_]) (by simp) h
theorem WT.my{t ty:TypeId}{i j:Operand}{x y:Nat}(g:o.op=.binOp .and t i j ty)(hw:aH ops k o=some true){dst:Nat}(f:o.dst=some dst)(l:Nat.blt dst n=true)(p:aW C k i=some (.int .u32 x))(r:aW C k j=some (.int .u32 y))(I:x<4294967296)(by_:y<4294967296)
  (h:WT C n ops rest ((dst,(.int .u32 ((x &&& y:Nat):Int)))::k) F own (λk2 J own2 rs=>Q k2 J own2 (⟨F,own,F,own,[]⟩::rs))):WT C n ops (o::rest) k F own Q:=
 WT.J4 g hw f l p r (by simp only[dO,Go.Abs.my I by_]) (by simp) h
theorem WT.oN{t ty:TypeId}{i j:Operand}{x y:Nat}(g:o.op=.binOp .andNot t i j ty)(hw:aH ops k o=some true){dst:Nat}(f:o.dst=some dst)(l:Nat.blt dst n=true)(p:aW C k i=some (.int .u32 x))(r:aW C k j=some (.int .u32 y))(I:x<4294967296)(by_:y<4294967296)
  (h:WT C n ops rest ((dst,(.int .u32 ((andNot x y:Nat):Int)))::k) F own (λk2 J own2 rs=>Q k2 J own2 (⟨F,own,F,own,[]⟩::rs))):WT C n ops (o::rest) k F own Q:=
 WT.J4 g hw f l p r (by simp only[dO,Go.Abs.oN I by_]) (by simp) h
theorem WT.AR{t ty:TypeId}{i j:Operand}{x y:Nat}(g:o.op=.binOp .sub t i j ty)(hw:aH ops k o=some true){dst:Nat}(f:o.dst=some dst)(l:Nat.blt dst n=true)(p:aW C k i=some (.int .u32 x))(r:aW C k j=some (.int .u32 y))(J:x<4294967296)(by_:y<=x)
  (h:WT C n ops rest ((dst,(.int .u32 ((x-y:Nat):Int)))::k) F own (λk2 I own2 rs=>Q k2 I own2 (⟨F,own,F,own,[]⟩::rs))):WT C n ops (o::rest) k F own Q:=
 WT.J4 g hw f l p r (by{simp only[dO];rw[sI (by omega)];congr 2;omega}) (by simp) h
theorem WT.KZ{op:BinOp}{t ty:TypeId}{J P:Operand}{x y:Nat}{kd:IntKind}{r:Nat}(f:o.op=.binOp op t J P ty)(hw:aH ops k o=some true){dst:Nat}(g:o.dst=some dst)(hn:Nat.blt dst n=true)(j:aW C k J=some (.int .u32 x))(p:aW C k P=some (.int kd (y:Nat)))
  (U:jO op .u32 x y=some (.int .u32 (r:Nat))) (I:op=.shl\/op=.shr)
  (h:WT C n ops rest ((dst,(.int .u32 (r:Nat)))::k) F own (λk2 F2 own2 rs=>Q k2 F2 own2 (⟨F,own,F,own,[]⟩::rs))):WT C n ops (o::rest) k F own Q:=by have i:∀v,((dst,v)::k:bY)=eS n k o.dst v:=λv=>by{rw[g,aA hn]};(simp only[i] at h;refine WT.still (l:=[]) hw (by rw[f];simp only[bg,j,p];rfl) (λh0 _=>?_) h;rw[f];rcases I with rfl | rfl);{simp only[aQ,j,p,jL,U];rfl};{simp only[aQ,j,p,jL,U];rfl}
theorem WT.Au{t ty:TypeId}{j l:Operand}{x y:Nat}{p:IntKind}(g:o.op=.binOp .shl t j l ty)(hw:aH ops k o=some true){dst:Nat}(f:o.dst=some dst)(r:Nat.blt dst n=true)(I:aW C k j=some (.int .u32 x))(J:aW C k l=some (.int p (y:Nat)))(i:y<=32)(P:x*2 ^ y<4294967296)
  (h:WT C n ops rest ((dst,(.int .u32 ((x*2 ^ y:Nat):Int)))::k) F own (λk2 U own2 rs=>Q k2 U own2 (⟨F,own,F,own,[]⟩::rs))):WT C n ops (o::rest) k F own Q:=
 WT.KZ g hw f r I J (by{have hb:IntKind.u32.bits=32:=rfl;unfold jO;rw[mb (by omega)];simp only[hb,TN,SP i];rw[sI];{congr 2};{have:(x:Int)*2 ^ y=((x*2 ^ y:Nat):Int):=by{rw[Ud,Int.natCast_pow];rfl};rw[this];omega}}) (.inl rfl) h
theorem WT.Ed{t ty:TypeId}{j l:Operand}{x y:Nat}{p:IntKind}(g:o.op=.binOp .shr t j l ty)(hw:aH ops k o=some true){dst:Nat}(f:o.dst=some dst)(r:Nat.blt dst n=true)(I:aW C k j=some (.int .u32 x))(J:aW C k l=some (.int p (y:Nat)))(i:y<=32)
  (h:WT C n ops rest ((dst,(.int .u32 ((x / 2 ^ y:Nat):Int)))::k) F own (λk2 P own2 rs=>Q k2 P own2 (⟨F,own,F,own,[]⟩::rs))):WT C n ops (o::rest) k F own Q:=
 WT.KZ g hw f r I J (by{have U:IntKind.u32.bits=32:=rfl;unfold jO;rw[mb (by omega)];simp only[U,TN,SP i];congr 2;rw[Int.natCast_ediv,Int.natCast_pow];exact Int.fdiv_eq_ediv_of_nonneg _ (Int.pow_nonneg (by decide))}) (.inr rfl) h
theorem WT.conv(hT:aP C T=true){s d:TypeId}{j:Operand}{r r2:Row}{p k2:IntKind}{x:Int}(f:o.op=.convert s d j)(hw:aH ops k o=some true){dst:Nat}(g:o.dst=some dst)(t:Nat.blt dst n=true)(I:aW C k j=some (.int p x))(hs:rowOf T s=some r2)(J:rowOf T d=some r)(P:r.d=.int k2)(U:k2.wrap x=x)
  (h:WT C n ops rest ((dst,(.int k2 x))::k) F own (λk2 F2 own2 rs=>Q k2 F2 own2 (⟨F,own,F,own,[]⟩::rs))):WT C n ops (o::rest) k F own Q:=by have i:∀v,((dst,v)::k:bY)=eS n k o.dst v:=λv=>by{rw[g,aA t]};simp only[i] at h;refine WT.still (l:=[]) hw (by rw[f];rfl) (λh0 _=>?_) h;obtain⟨_,_,_,_,d2,h4,h5⟩:=dD hT hs;rw[f];simp only[aQ,I,yX,h4,tL hT J P,U];rfl
end
end Go.Abs
/-
 Grammars as data,and how they lie.
-/
set_option linter.unusedVariables false
namespace Go.Abs
open Go
structure Sym where
 term:Bool
 n:Nat
deriving DecidableEq
structure cb where
 left:Nat
 right:List Sym
deriving DecidableEq
structure aj where
 ae:Nat
 az:Nat
 start:Nat
 rules:List cb
def eO:Ty Nat where
 size:=1
 rel:=λ_ l x=>l=[.int .i64 x]
 len:=λ_ _ _ h=>by rw[h];rfl
 one:=λ_ _ _ h=>by rw[h];rfl
 mono:=λ_ _ _ _ _ h=>h
def gW:Ty Sym where
 size:=2
 rel:=λ_ l x=>l=[.bool x.term,.int .i64 x.n]
 len:=λ_ _ _ h=>by rw[h];rfl
 one:=λ_ _ _ h=>by rw[h];rfl
 mono:=λ_ _ _ _ _ h=>h
def cO:Ty cb where
 size:=2
 rel:=λF l x=>∃a n c,l=[.int .i64 x.left,.slice a n c]/\a7 gW F a n c x.right
 len:=λ_ _ _ h=>by obtain⟨a,n,c,rfl,_⟩:=h;rfl
 one:=λ_ _ _ h=>by obtain⟨a,n,c,rfl,_⟩:=h;rfl
 mono:=λ_ _ _ _ f h=>by obtain⟨a,n,c,e,h⟩:=h;exact⟨a,n,c,e,h.mono f⟩
def H4(F:aw)(v:Value)(g:aj):Prop:=∃a n c,v=.agg ⟨[.int .i64 g.ae,.int .i64 g.az,.int .i64 g.start,.slice a n c]⟩/\a7 cO F a n c g.rules
theorem H4.mono{F G:aw}{v:Value}{g:aj}(h:H4 F v g)(f:aw.le F G):H4 G v g:=by obtain⟨a,n,c,e,h⟩:=h;exact⟨a,n,c,e,h.mono f⟩
theorem OM(x y:Sym):((x.term==y.term)&&(((x.n:Int)==(y.n:Int))&&true))=decide (x=y):=by obtain⟨a,n⟩:=x;obtain⟨b,m⟩:=y;rw[Td];simp[Int.natCast_inj]
end Go.Abs
namespace Go.Abs
open Go
section
variable {C:Ctx}{n:Nat}{k:bY}{F:aw}{own:bH}{ops rest:List Oper}{o:Oper}{Q:bY->aw->bH->List Rec->Prop}
theorem WT.PN{dst:Nat}{l:List Nat}(hw:aH ops k o=some false)(f:o.dst=some dst)(g:Nat.blt dst n=true)(i:bg (aW C k) o.op=some l)
  (h:WT C n ops rest ((dst,cl)::k) F own (λk2 j own2 rs=>Q k2 j own2 (⟨F,own,F,own,l⟩::rs))):WT C n ops (o::rest) k F own Q:=
 WT.skip hw i (by rw[f,aA g];exact h)
theorem WT.PY{l:List Nat}(hw:aH ops k o=some false)(f:o.dst=none)(g:bg (aW C k) o.op=some l)
  (h:WT C n ops rest k F own (λk2 i own2 rs=>Q k2 i own2 (⟨F,own,F,own,l⟩::rs))):WT C n ops (o::rest) k F own Q:=
 WT.skip hw g (by rw[f];exact h)
end
end Go.Abs
namespace Go.Abs
open Go
def kindOf:Op->Nat
 | .load _ _=>1
 | .store _ _ _=>2
 | .binOp _ _ _ _ _=>3
 | .indexAddr _ _ _=>4
 | _=>0
section
variable {C:Ctx}{n:Nat}{k:bY}{F:aw}{own:bH}{ops rest:List Oper}{o:Oper}{Q:bY->aw->bH->List Rec->Prop}
theorem WT.kind(m:Nat)(_:Nat.beq (kindOf o.op) m=true)(h:WT C n ops (o::rest) k F own Q):WT C n ops (o::rest) k F own Q:=h
end
end Go.Abs
/-
 Calls in the forms that walks use;lending;slices that are made and written to.
-/
set_option linter.unusedVariables false
namespace Go.Abs
open Go
def aw.iS(F:aw)(B:List (Nat×aC)):aw:=λj=>match B.find? (λp=>p.1==j) with
 | some p=>some p.2
 | none=>F j
theorem KX{B:List (Nat×aC)}(f:(B.map (·.1)).Nodup){i:Nat}{b:aC}(h:(i,b)∈B):B.find? (λp=>p.1==i)=some (i,b):=by induction B with|nil=>{cases h}|cons p B j=>{simp only[y2,Ss] at f;rcases IN.1 h with rfl | h;{simp};{have g:p.1≠i:=λe=>f.1 (e▸SZ h);rw[List.find?_cons,show (p.1==i)=false by simpa using g];exact j f.2 h}}
theorem aw.EF{F:aw}{B:List (Nat×aC)}(f:(B.map (·.1)).Nodup){i:Nat}{b:aC}(h:(i,b)∈B):aw.iS F B i=some b:=by unfold aw.iS;rw[KX f h]
theorem aw.GW{F:aw}{B:List (Nat×aC)}(h:∀p∈B,F p.1=none):aw.le F (aw.iS F B):=λi b q=>by unfold aw.iS;split;{rename_i p f;have g:=T2 f;have j:=UY f;have:p.1=i:=by{simpa using j};have:=h p g;simp_all};{exact q}
theorem St.ay{F:aw}{own:bH}{h:au}{B:List (Nat×aC)}(s:St F (B::own) h) :
  St (aw.iS F B) own h/\aw.le F (aw.iS F B)/\∀i b,(i,b)∈B->aw.iS F B i=some b:=by have j:kT F (B++own.flatten) h:=by{simpa [St] using s};have f:=j.nodup;rw[R1,S1] at f;have o:∀p∈B,F p.1=none:=λp g=>j.apart p (IT _ g);have hle:=aw.GW o;refine⟨⟨λi b q=>?_,λp g=>j.has p (R8 _ g),λp g=>?_,f.2.1,j.wf⟩,hle,λi b hm=>aw.EF f.1 hm⟩;{unfold aw.iS at q;split at q;{rename_i p g;cases q;have r:=T2 g;have t:=UY g;have:p.1=i:=by{simpa using t};rw[<-this];exact j.has p (IT _ r)};{exact j.z4 i b q}};{unfold aw.iS;split;{rename_i C l;have r:=T2 l;have t:=UY l;have I:C.1=p.1:=by{simpa using t};exact absurd I (f.2.2 _ (SZ r) _ (SZ g))};{exact j.apart p (R8 _ g)}}
theorem Spec.H8{C:Ctx}{f:FuncId}{args:List Value}{F:aw}{oin:bH}{P:Value->bH->Prop}{B:List (Nat×aC)}
  (spec:∀G,aw.le F G->(∀i b,(i,b)∈B->G i=some b)->Spec C f args G oin λ_ v o=>P v o):Spec C f args F (B::oin) λ_ v o=>∃J,o=B::J/\P v J:=by intro own h hs;have hs:St F (B::(oin++own)) h:=hs;obtain⟨s1,hle,R⟩:=hs.ay;obtain⟨v,t,U,j,h1,I,h3,h4⟩:=spec _ hle R own h s1;have s0:kT F (B++(oin++own).flatten) h:=by{simpa [St] using hs};have l:=s0.nodup;rw[R1,S1] at l;have g:kT U (j++own).flatten t:=h3;have r:∀i b,(i,b)∈B->U i=some b:=λi b hm=>I i b (R i b hm);refine⟨v,t,F,B::j,h1,aw.le.refl F,?_,j,rfl,h4⟩;show kT F (B++(j++own).flatten) t;refine⟨λi b q=>g.z4 i b (I i b (hle i b q)),λp hp=>?_,λp hp=>?_,?_,g.wf⟩;{rcases AI.1 hp with hp | hp;{exact g.z4 _ _ (r p.1 p.2 hp)};{exact g.has p hp}};{rcases AI.1 hp with hp | hp;{exact s0.apart p (IT _ hp)};{have:=g.apart p hp;cases hf:F p.1 with|none=>{rfl}|some b=>{rw[I _ _ (hle _ _ hf)] at this;cases this}}};{rw[R1,S1];refine⟨l.1,g.nodup,λa ha b hb=>?_⟩;obtain⟨p,hp,rfl⟩:=tx.1 ha;obtain⟨q,hq,rfl⟩:=tx.1 hb;intro e;have h5:=g.apart q hq;rw[<-e,r p.1 p.2 hp] at h5;cases h5}
section
variable {C:Ctx}{T:RT}{n:Nat}{k:bY}{F:aw}{own:bH}{ops rest:List Oper}{o:Oper}{Q:bY->aw->bH->List Rec->Prop}{α:Type}{R:Ty α}
theorem WT.aX{f:FuncId}{fn:Func}{as:Array Operand}{ts:Array TypeId}{args:List Value}{P:Value->Prop}(t:C.func f=some fn)(I:fn.body.isSome=true)(g:o.op=.call ⟨.value (.func f),as,ts⟩)
  (hw:aH ops k o=some true) {dst:Nat} (i:o.dst=some dst) (J:Nat.blt dst n=true) (U:cZ (aW C k) as.toList=some args) (spec:Spec C f args F [] λ_ v o=>o=[]/\P v)
  (h:∀v,P v->WT C n ops rest ((dst,v)::k) F own (λk2 F2 own2 rs=>Q k2 F2 own2 (⟨F,own,F,own,[]⟩::rs))) :
  WT C n ops (o::rest) k F own Q:=by refine WT.step (l:=[]) (by rw[g];rfl) λe p hk hs=>?_;obtain⟨v,h1,F1,r,⟨m,hd⟩,hF,j,rfl,hp⟩:=spec own p hs;refine⟨v,h1,F,own,⟨m,λN hN=>?_⟩,aw.le.refl F,j.nh hF,by rw[i,aA J];exact h v hp⟩;unfold dj;rw[eJ hk hw];have:aQ C (aW C k) p o.op=some (.call f args):=by{rw[g];simp only[aQ,aW,U,kO,t,I,xf];simp};simp only[dY hk.eval this,hd N hN]
theorem WT.bO{f:FuncId}{fn:Func}{as:Array Operand}{ts:Array TypeId}{args:List Value}{P:aw->Value->Prop}(p:C.func f=some fn)(r:fn.body.isSome=true)(j:o.op=.call ⟨.value (.func f),as,ts⟩)
  (hw:aH ops k o=some true) {dst:Nat} (i:o.dst=some dst) (t:Nat.blt dst n=true) (I:cZ (aW C k) as.toList=some args) (spec:Spec C f args F [] λg v o=>o=[]/\P g v)
  (h:∀g v,aw.le F g->P g v->WT C n ops rest ((dst,v)::k) g own (λk2 J own2 rs=>Q k2 J own2 (⟨F,own,g,own,[]⟩::rs))) :
  WT C n ops (o::rest) k F own Q:=
 WT.KM p r j hw i t I spec (ri _) (λg v l U hP=>by obtain⟨rfl,hp⟩:=hP;exact h g v U hp)
theorem WT.qk(p:Nat){f:FuncId}{fn:Func}{as:Array Operand}{ts:Array TypeId}{args:List Value}{B:List (Nat×aC)}{db:List (Nat×aC)->bH}{P:Value->List (Nat×aC)->Prop}(hf:C.func f=some fn)(hb:fn.body.isSome=true)(i:o.op=.call ⟨.value (.func f),as,ts⟩)
  (hw:aH ops k o=some true) {dst:Nat} (j:o.dst=some dst) (hn:Nat.blt dst n=true) (hv:cZ (aW C k) as.toList=some args) (J:own[p]?=some B) (r:∀g,jG own p g=some (db g))
  (spec:Spec C f args F [B] λ_ v o=>∃g,o=[g]/\P v g)
  (h:∀v g,P v g->WT C n ops rest ((dst,v)::k) F (db g) (λk2 F2 own2 rs=>Q k2 F2 own2 (⟨F,own,F,db g,[]⟩::rs))) :
  WT C n ops (o::rest) k F own Q:=by refine WT.step (l:=[]) (by rw[i];rfl) λe U hk hs=>?_;obtain⟨v,h1,F1,aa,⟨m,hd⟩,hF,t,g,rfl,I⟩:=spec (own.eraseIdx p) U (hs.perm (cw J));have e1:=cA _ _ _ _ (r g);refine⟨v,h1,F,db g,⟨m,λN hN=>?_⟩,aw.le.refl F,?_,by rw[j,aA hn];exact h v g I⟩;{unfold dj;rw[eJ hk hw];have:aQ C (aW C k) U o.op=some (.call f args):=by{rw[i];simp only[aQ,aW,hv,kO,hf,hb,xf];simp};simp only[dY hk.eval this,hd N hN]};{rw[<-e1];exact(t.nh hF).perm (ff g J).symm}
theorem WT.jC(p:Nat){f:FuncId}{fn:Func}{as:Array Operand}{ts:Array TypeId}{args:List Value}{B:List (Nat×aC)}{P:Value->Prop}(hf:C.func f=some fn)(hb:fn.body.isSome=true)(g:o.op=.call ⟨.value (.func f),as,ts⟩)
  (hw:aH ops k o=some true) {dst:Nat} (j:o.dst=some dst) (hn:Nat.blt dst n=true) (hv:cZ (aW C k) as.toList=some args) (I:own[p]?=some B)
  (spec:∀G,aw.le F G->(∀i b,(i,b)∈B->G i=some b)->Spec C f args G [] λ_ v o=>o=[]/\P v)
  (h:∀v,P v->WT C n ops rest ((dst,v)::k) F own (λk2 F2 own2 rs=>Q k2 F2 own2 (⟨F,own,F,own,[]⟩::rs))) :
  WT C n ops (o::rest) k F own Q:=by refine WT.step (l:=[]) (by rw[g];rfl) λe J hk hs=>?_;obtain⟨v,h1,F1,U,⟨m,hd⟩,hF,r,o',rfl,rfl,t⟩:=Spec.H8 spec (own.eraseIdx p) J (hs.perm (cw I));refine⟨v,h1,F,own,⟨m,λN hN=>?_⟩,aw.le.refl F,?_,by rw[j,aA hn];exact h v t⟩;{unfold dj;rw[eJ hk hw];have:aQ C (aW C k) J o.op=some (.call f args):=by{rw[g];simp only[aQ,aW,hv,kO,hf,hb,xf];simp};simp only[dY hk.eval this,hd N hN]};{exact(r.nh hF).perm (cw I).symm}
theorem WT.ay(p:Nat){B:List (Nat×aC)}{be:bH}(f:own[p]?=some B)(j:jG own p []=some be)
  (h:∀G,aw.le F G->(∀i b,(i,b)∈B->G i=some b)->WT C n ops rest k G be Q):WT C n ops rest k F own Q:=by intro e g hk hs;have l:=cA _ _ _ _ j;obtain⟨s1,hle,r⟩:=(hs.perm (cw f)).ay;have s2:St (aw.iS F B) be g:=by{rw[<-l];refine St.perm (own:=[]::own.eraseIdx p) ?_ (ff [] f).symm;exact s1};obtain⟨t,I,tr,k2,J,own2,rs,P,U,h5,h6⟩:=h _ hle r e g hk s2;exact⟨t,I,tr,k2,J,own2,rs,P,U,hle.trans h5,h6⟩
theorem AW.ay{c:Code}{A:Ex->bY->aw->bH->Prop}(p:Nat){B:List (Nat×aC)}{be:bH}(f:own[p]?=some B)(j:jG own p []=some be)
  (h:∀G,aw.le F G->(∀i b,(i,b)∈B->G i=some b)->AW C n c k G be A):AW C n c k F own A:=by intro e g hk hs;have l:=cA _ _ _ _ j;obtain⟨s1,hle,r⟩:=(hs.perm (cw f)).ay;have s2:St (aw.iS F B) be g:=by{rw[<-l];exact St.perm (own:=[]::own.eraseIdx p) s1 (ff [] f).symm};obtain⟨x,t,I,k2,J,own2,P,U,h5,h6⟩:=h _ hle r e g hk s2;exact⟨x,t,I,k2,J,own2,P,U,hle.trans h5,h6⟩
theorem cu.frozen{a:Option Addr}{m c:Nat}{B:List (Nat×aC)}{xs:List α}(f:cu R F a m c B xs){G:aw}(g:aw.le F G)(j:∀i b,(i,b)∈B->G i=some b):a7 R G a m c xs:=f.arr g j
theorem WT.bu(hT:aP C T=true)(p:Nat){B:List (Nat×aC)}{db:List (Nat×aC)->bH}{a:Option Addr}{m c d by_:Nat}{xs ys:List α}{ds:List Value}{t e:Nat}{ts:List TypeId}{r:Row}{z x:Value}{xo so:Operand}
  (hb:cu R F a m c B xs) (hp:own[p]?=some B) (i:∀f,jG own p f=some (db f)) (U:o.op=.call ⟨.builtin .append,⟨[so,xo]⟩,⟨t::ts⟩⟩) (hw:aH ops k o=some true) {dst:Nat} (j:o.dst=some dst) (hn:Nat.blt dst n=true)
  (hs:aW C k so=some (.slice a m c)) (hx:aW C k xo=some x) (hr:rowOf T t=some r) (hd:r.d=.slice e) (aa:dW T e=some R.size) (hz:gq T e=some z) (ab:kz T e=some by_)
  (l:∀h,St F own h->fV C h e R.size ts.head? x=some (d,ds)) (ac:aF R F ds ys) (hlen:d=ys.length) (I:0<d/\0<R.size/\0<by_) (g:(m+d)*by_<=140737488355328)
  (h:∀J P f,cu R F J (m+d) P f (xs++ys)->WT C n ops rest ((dst,.slice J (m+d) P)::k) F (db f) (λk2 F2 own2 rs=>Q k2 F2 own2 (⟨F,own,F,db f,[]⟩::rs))) :
  WT C n ops (o::rest) k F own Q:=
 WT.append hT p hb hp U hw j hn hs hx hr hd aa hz ab l ac hlen I g (λJ P f hB=>by{rw[cA _ _ _ _ (i f)];exact h J P f hB})
theorem WT.aS(hT:aP C T=true){t e len f:Nat}{ps:Array (Nat×Operand)}{vs:List (Nat×Value)}{r:Row}{z:Value}{cs:List Value}{cap:Nat}(I:o.op=.buildSlice t len ps)(hw:aH ops k o=some true){dst:Nat}(l:o.dst=some dst)(hn:Nat.blt dst n=true)
  (J:fw (aW C k) ps.toList=some vs) (hr:rowOf T t=some r) (hd:r.d=.slice e) (P:dW T e=some f) (hz:gq T e=some z) (U:(Nat.ble (len*f) 16777216&&Nat.blt 0 f)=true)
  {g:List Value} (j:Ax (λi=>some (i*f,f)) (dy z.cells.toList len) vs=some g) (hlen:g.length=len*f) (aa:takeN (len*f) g=some cs) (p:(bif len==0 then 0 else f)=cap)
  (h:∀i,F i=none->WT C n ops rest ((dst,.slice (some ⟨i,0,none⟩) len cap)::k) F ([(i,.cells false cs)]::own) (λk2 F2 own2 rs=>Q k2 F2 own2 (⟨F,own,F,[(i,.cells false cs)]::own,[]⟩::rs))) :
  WT C n ops (o::rest) k F own Q:=by subst p;have:=(ob _ _ _ aa).1;rw[<-hlen,SS] at this;subst this;exact WT.buildSlice hT I hw l hn J hr hd P hz U (rL _ _ _ j) h
end
end Go.Abs
namespace Go.Abs
open Go
theorem lU{i j:Nat}{ps:List (Nat×Nat)}{rs:List Rec}{a b:Rec}(l:rs[i]?=some a)(o:rs[j]?=some b)(hk:∀x∈a.looks,b.keeps x)(h:m0 ps rs):m0 ((i,j)::ps) rs:=by refine⟨λp b' f g=>?_,h⟩;rw[l] at f;rw[o] at g;cases f;cases g;exact .inl hk
theorem uu{i j:Nat}{ps:List (Nat×Nat)}{rs:List Rec}{a b:Rec}(r:rs[i]?=some a)(t:rs[j]?=some b)(l:i<j)(hk:∀o,St b.F' b.be o->a.bend.p o)(h:m0 ps rs):m0 ((i,j)::ps) rs:=by refine⟨λC b' f g=>?_,h⟩;rw[r] at f;rw[t] at g;cases f;cases g;exact .inr ⟨l,hk⟩
theorem Ei{b:Rec}:∀y∈([]:List Nat),b.keeps y:=λ_ h=>by cases h
theorem KY{b:Rec}{x:Nat}(h:b.keeps x):∀y∈[x],b.keeps y:=λy f=>by rw[n0.1 f];exact h
theorem LC{r:Rec}{x:Nat}{cf:aC}(p q:Nat){B f:List (Nat×aC)}(g:r.own[p]?=some B)(i:(x,cf)∈B)(j:r.be[q]?=some f)(l:(x,cf)∈f):r.keeps x:=
 .inr ⟨cf,T5.2 ⟨B,SL g,i⟩,T5.2 ⟨f,SL j,l⟩⟩
theorem AK{r:Rec}{x:Nat}{cf:aC}(h:r.F x=some cf):r.keeps x:=.inl ⟨cf,h⟩
end Go.Abs
namespace Go.Abs
open Go
section
variable {C:Ctx}{T:RT}{n:Nat}{k:bY}{F:aw}{own:bH}{ops rest:List Oper}{o:Oper}{Q:bY->aw->bH->List Rec->Prop}{α:Type}{R:Ty α}
theorem WT.RD(hT:aP C T=true){t ty:TypeId}{i j:Operand}{a b:Bool}{r:Row}(f:o.op=.binOp .eql t i j ty)(hw:aH ops k o=some true){dst:Nat}(g:o.dst=some dst)(I:Nat.blt dst n=true)
  (l:aW C k i=some (.bool a)) (p:aW C k j=some (.bool b)) (J:rowOf T t=some r) (P:r.d=.bool)
  (h:WT C n ops rest ((dst,.bool (a==b))::k) F own (λk2 U own2 rs=>Q k2 U own2 (⟨F,own,F,own,[]⟩::rs))):WT C n ops (o::rest) k F own Q:=by refine WT.still hw (by rw[f];simp only[bg,l,p];rfl) (λh0 _=>?_) (by rw[g,aA I];exact h);rw[f];have hu:=tu hT J P;simp only[aQ,l,p,jL,iT,xf,equalA,hu];unfold qv;simp only[hu,fH];rfl
theorem WT.Ru(hT:aP C T=true){t ty:TypeId}{i j:Operand}{a b:Bool}{r:Row}(f:o.op=.binOp .neq t i j ty)(hw:aH ops k o=some true){dst:Nat}(g:o.dst=some dst)(I:Nat.blt dst n=true)
  (l:aW C k i=some (.bool a)) (p:aW C k j=some (.bool b)) (J:rowOf T t=some r) (P:r.d=.bool)
  (h:WT C n ops rest ((dst,.bool (!(a==b)))::k) F own (λk2 U own2 rs=>Q k2 U own2 (⟨F,own,F,own,[]⟩::rs))):WT C n ops (o::rest) k F own Q:=by refine WT.still hw (by rw[f];simp only[bg,l,p];rfl) (λh0 _=>?_) (by rw[g,aA I];exact h);rw[f];have hu:=tu hT J P;simp only[aQ,l,p,jL,iT,xf,equalA,hu];unfold qv;simp only[hu,fH];rfl
theorem WT.PR(hT:aP C T=true){t:TypeId}{j:Operand}{i off:Nat}{ro:Bool}{cs:List Value}{v:Value}(l:F i=some (.cells ro cs))(g:o.op=.load t j)(hw:aH ops k o=some true){dst:Nat}(f:o.dst=some dst)(p:Nat.blt dst n=true)
  (r:aW C k j=some (.pointer (some ⟨i,off,none⟩))) (I:nQ T cs t off=some v)
  (h:WT C n ops rest ((dst,v)::k) F own (λk2 J own2 rs=>Q k2 J own2 (⟨F,own,F,own,[i]⟩::rs))):WT C n ops (o::rest) k F own Q:=
 WT.wK g hw r l (bh hT I) (by rw[f,aA p];exact h)
theorem re{f:FuncId}{fn:Func}{first args capt:List Value}(g:C.func f=some fn)(i:fn.body.isSome=true):kO C (.func (.func f) ⟨first⟩ ⟨capt⟩) args=some (.call f (first++args++capt)):=by simp only[kO,g,i,xf]
theorem WT.eY{f:FuncId}{fn:Func}{fo:Operand}{as:Array Operand}{ts:Array TypeId}{args args' first capt:List Value}{P:Value->Prop}(J:C.func f=some fn)(U:fn.body.isSome=true)(i:o.op=.call ⟨.value fo,as,ts⟩)
  (hw:aH ops k o=some true) {dst:Nat} (j:o.dst=some dst) (hn:Nat.blt dst n=true) (p:aW C k fo=some (.func (.func f) ⟨first⟩ ⟨capt⟩)) (hv:cZ (aW C k) as.toList=some args) (g:first++args++capt=args') (spec:Spec C f args' F [] λ_ v o=>o=[]/\P v)
  (h:∀v,P v->WT C n ops rest ((dst,v)::k) F own (λk2 F2 own2 rs=>Q k2 F2 own2 (⟨F,own,F,own,[]⟩::rs))) :
  WT C n ops (o::rest) k F own Q:=by subst g;refine WT.step (l:=[]) (by rw[i];rfl) λe t hk hs=>?_;obtain⟨v,h1,F1,I,⟨m,hd⟩,hF,r,rfl,hp⟩:=spec own t hs;refine⟨v,h1,F,own,⟨m,λN hN=>?_⟩,aw.le.refl F,r.nh hF,by rw[j,aA hn];exact h v hp⟩;unfold dj;rw[eJ hk hw];have:aQ C (aW C k) t o.op=some (.call f (first++args++capt)):=by{rw[i];simp only[aQ,p,hv,re J U]};simp only[dY hk.eval this,hd N hN]
end
end Go.Abs
/-
 Slices that are made and written to;rows of a table;numbers of 32 bits.
-/
set_option linter.unusedVariables false
namespace Go.Abs
open Go
section
variable {C:Ctx}{T:RT}{n:Nat}{k:bY}{F:aw}{own:bH}{ops rest:List Oper}{o:Oper}{Q:bY->aw->bH->List Rec->Prop}{α:Type}{R:Ty α}
theorem WT.dk(d:Nat){v v':Value}(f:lk k d=some v)(e:v=v')(h:WT C n ops rest ((d,v')::k) F own Q):WT C n ops rest k F own Q:=
 WT.weaken (dm.uJ (e▸f)) h
theorem AW.dk{c:Code}{A:Ex->bY->aw->bH->Prop}(d:Nat){v v':Value}(f:lk k d=some v)(e:v=v')(h:AW C n c ((d,v')::k) F own A):AW C n c k F own A:=
 AW.weaken (dm.uJ (e▸f)) h
theorem WT.cz(hT:aP C T=true){t e s:Nat}{r:Row}{i io:Operand}{b off m c:Nat}{p:IntKind}{j:Nat}(f:o.op=.indexAddr t i io)(hw:aH ops k o=some true){dst:Nat}(g:o.dst=some dst)(I:Nat.blt dst n=true)
  (J:aW C k i=some (.slice (some ⟨b,off,none⟩) m c)) (hi:aW C k io=some (.int p (j:Nat))) (P:rowOf T t=some r) (U:r.d=.slice e) (hs:dW T e=some s) (hj:j<m)
  (h:WT C n ops rest ((dst,.pointer (some ⟨b,off+j*s,none⟩))::k) F own (λk2 F2 own2 rs=>Q k2 F2 own2 (⟨F,own,F,own,[]⟩::rs))):WT C n ops (o::rest) k F own Q:=by refine WT.still (l:=[]) hw (by rw[f];rfl) (λh0 _=>?_) (by rw[g,aA I];exact h);rw[f];simp only[aQ,J,hi,jh,bz hT P U,bI hT hs];rw[nw ⟨TF j,by omega⟩];simp
theorem WT.uM(hT:aP C T=true){t e s len:Nat}{r:Row}{i io:Operand}{b off:Nat}{p:IntKind}{j:Nat}(f:o.op=.indexAddr t i io)(hw:aH ops k o=some true){dst:Nat}(g:o.dst=some dst)(I:Nat.blt dst n=true)
  (J:aW C k i=some (.pointer (some ⟨b,off,none⟩))) (hi:aW C k io=some (.int p (j:Nat))) (P:rowOf T t=some r) (U:r.d=.array len e) (hs:dW T e=some s) (hj:j<len)
  (h:WT C n ops rest ((dst,.pointer (some ⟨b,off+j*s,none⟩))::k) F own (λk2 F2 own2 rs=>Q k2 F2 own2 (⟨F,own,F,own,[]⟩::rs))):WT C n ops (o::rest) k F own Q:=by refine WT.still (l:=[]) hw (by rw[f];rfl) (λh0 _=>?_) (by rw[g,aA I];exact h);rw[f];simp only[aQ,J,hi,jh,lW hT P U,bI hT hs];rw[nw ⟨TF j,by omega⟩];simp
theorem y6(hT:aP C T=true){t off:Nat}{r:Row}{cs:List Value}{v:Value}(f:rowOf T t=some r)(g:r.d.agg=false)(i:cs[off]?=some v):fL C cs t off=some v:=by obtain⟨_,p,_,_,d,j,l⟩:=dD hT f;unfold fL;rw[j];simp only[uK l,g,zy];exact i
theorem WT.loadAt(hT:aP C T=true)(p:Nat){t:TypeId}{j:Operand}{i off:Nat}{ro:Bool}{cs:List Value}{v:Value}{r:Row}{B:List (Nat×aC)}(g:o.op=.load t j)(hw:aH ops k o=some true){dst:Nat}(f:o.dst=some dst)(l:Nat.blt dst n=true)
  (I:aW C k j=some (.pointer (some ⟨i,off,none⟩))) (J:own[p]?=some B) (P:(i,aC.cells ro cs)∈B) (U:rowOf T t=some r) (hd:r.d.agg=false) (hv:cs[off]?=some v)
  (h:WT C n ops rest ((dst,v)::k) F own (λk2 F2 own2 rs=>Q k2 F2 own2 (⟨F,own,F,own,[i]⟩::rs))):WT C n ops (o::rest) k F own Q:=
 WT.s4 p g hw I J P (y6 hT U hd hv) (by rw[f,aA l];exact h)
theorem WT.ME(hT:aP C T=true){t:TypeId}{j:Operand}{i off:Nat}{ro:Bool}{cs:List Value}{v:Value}{r:Row}(l:F i=some (.cells ro cs))(g:o.op=.load t j)(hw:aH ops k o=some true){dst:Nat}(f:o.dst=some dst)(p:Nat.blt dst n=true)
  (I:aW C k j=some (.pointer (some ⟨i,off,none⟩))) (J:rowOf T t=some r) (P:r.d.agg=false) (U:cs[off]?=some v)
  (h:WT C n ops rest ((dst,v)::k) F own (λk2 F2 own2 rs=>Q k2 F2 own2 (⟨F,own,F,own,[i]⟩::rs))):WT C n ops (o::rest) k F own Q:=
 WT.wK g hw I l (y6 hT J P U) (by rw[f,aA p];exact h)
theorem WT.storeAt(hT:aP C T=true)(p q:Nat){B l:List (Nat×aC)}{be:bH}{t:TypeId}{a x:Operand}{i off:Nat}{cs:List Value}{v:Value}(f:o.op=.store t a x)(hw:aH ops k o=some true)(r:o.dst=none)(I:aW C k a=some (.pointer (some ⟨i,off,none⟩)))
  (J:aW C k x=some v) (P:own[p]?=some B) (U:B[q]?=some (i,.cells false cs)) (hm:dW T t=some 1) (g:v.cells.toList=[v]) (h1:one v=true) (j:off<cs.length)
  (hB:B.set q (i,.cells false (cs.set off v))=l) (ho:jG own p l=some be)
  (h:WT C n ops rest k F be (λk2 F2 own2 rs=>Q k2 F2 own2 (⟨F,own,F,be,[i]⟩::rs))) :
  WT C n ops (o::rest) k F own Q:=by have e2:=cA _ _ _ _ ho;subst hB;subst e2;have hs:bp cs off v.cells.toList=cs.set off v:=by{unfold bp;rw[g,List.set_eq_take_append_cons_drop,nw j];rfl};have:=WT.store (C:=C) (n:=n) (k:=k) (F:=F) (Q:=Q) (rest:=rest) (ops:=ops) p q f hw I J P U (bI hT hm) (by rw[g];rfl) (by rw[g];simp[h1]) (by omega);rw[hs] at this;exact this (by rw[r];exact h)
def NH:Value->Option Value
 | .int k n=>some (.int k n)
 | .bool b=>some (.bool b)
 | .slice a n c=>some (.slice a n c)
 | .pointer p=>some (.pointer p)
 | .map m=>some (.map m)
 | _=>none
theorem Mh:∀{v w:Value},NH v=some w->v=w/\v.cells.toList=[w]
 | .int _ _,_,h=>by cases h;exact⟨rfl,rfl⟩
 | .bool _,_,h=>by cases h;exact⟨rfl,rfl⟩
 | .slice _ _ _,_,h=>by cases h;exact⟨rfl,rfl⟩
 | .pointer _,_,h=>by cases h;exact⟨rfl,rfl⟩
 | .map _,_,h=>by cases h;exact⟨rfl,rfl⟩
 | .float ..,_,h=>by cases h
 | .complex ..,_,h=>by cases h
 | .string ..,_,h=>by cases h
 | .chan ..,_,h=>by cases h
 | .func ..,_,h=>by cases h
 | .nilFunc,_,h=>by cases h
 | .iface ..,_,h=>by cases h
 | .nilIface,_,h=>by cases h
 | .agg ..,_,h=>by cases h
 | .tuple ..,_,h=>by cases h
theorem WT.nL(hT:aP C T=true){t e by_:Nat}{lo co:Operand}{l:Nat}{r:Row}{z I:Value}(j:o.op=.makeSlice t lo co)(hw:aH ops k o=some true){dst:Nat}(p:o.dst=some dst)(hn:Nat.blt dst n=true)
  (hl:aW C k lo=some (.int .i64 (l:Nat))) (hc:aW C k co=some (.int .i64 (l:Nat))) (hr:rowOf T t=some r) (hd:r.d=.slice e) (J:dW T e=some 1) (hz:gq T e=some z) (P:NH z=some I) (U:kz T e=some by_)
  (f:l<=281474976710656/\by_*l<=281474976710656)
  (h:∀i,F i=none->WT C n ops rest ((dst,.slice (some ⟨i,0,none⟩) l (bif l==0 then 0 else 1))::k) F ([(i,.cells false (List.replicate l I))]::own) (λk2 F2 own2 rs=>Q k2 F2 own2 (⟨F,own,F,[(i,.cells false (List.replicate l I))]::own,[]⟩::rs))) :
  WT C n ops (o::rest) k F own Q:=by have aa:=(Mh P).2;have g:dy z.cells.toList l=List.replicate l I:=by{rw[aa];clear f h hl hc;induction l with|zero=>{rfl}|succ l ih=>{simp only[dy,ih,List.replicate_succ];rfl}};refine WT.new (mk:=λi=>.slice (some ⟨i,0,none⟩) l (bif l==0 then 0 else 1)) (l:=[]) hw (by rw[j];rfl) (λh0 _=>?_) (λi hi=>by rw[p,aA hn];exact h i hi);rw[j];simp only[aQ,hl,hc,fI,bz hT hr hd,bI hT J,cT hT hz,e9 hT U];have h2:((by_:Nat):Int)*(l:Int)<=281474976710656:=by{have:=f.2;have h2:((by_*l:Nat):Int)<=281474976710656:=by{omega};rwa [Ud] at h2};have h3:(0:Int)<=l/\True/\(l:Int)<=281474976710656/\(by_:Int)*(l:Int)<=281474976710656/\0<1:=⟨TF l,trivial,by omega,h2,by decide⟩;rw[nw h3];simp[g]
theorem WT.OP{t ty:TypeId}{j l:Operand}{x y:Nat}(i:o.op=.binOp .mul t j l ty)(hw:aH ops k o=some true){dst:Nat}(g:o.dst=some dst)(p:Nat.blt dst n=true)(r:aW C k j=some (.int .u32 x))(I:aW C k l=some (.int .u32 y))
  (h:WT C n ops rest ((dst,.int .u32 ((x*y % 4294967296:Nat):Int))::k) F own (λk2 J own2 rs=>Q k2 J own2 (⟨F,own,F,own,[]⟩::rs))):WT C n ops (o::rest) k F own Q:=
 WT.J4 i hw g p r I (by{have hs:IntKind.u32.signed=false:=rfl;have f:IntKind.u32.bits=32:=rfl;simp only[dO,IntKind.wrap,hs,f,Uq];have:(2:Int) ^ 32=4294967296:=rfl;rw[this];simp}) (by simp) h
end
structure xg(α:Type) where
 cell:α->Value
 one:∀x,Go.Abs.one (cell x)=true
 cells:∀x,(cell x).cells.toList=[cell x]
def Bu:xg Nat:=⟨λx=>.int .u32 x,λ_=>rfl,λ_=>rfl⟩
def a6:xg Bool:=⟨λx=>.bool x,λ_=>rfl,λ_=>rfl⟩
inductive Rows{α:Type}(K:xg α):List Value->List (Nat×aC)->List (List α)->Prop
 | nil:Rows K [] [] []
 | cons {id c:Nat} {vs:List Value} {bs:List (Nat×aC)} {row:List α} {rows:List (List α)}:(c=if row.length=0 then 0 else 1)->Rows K vs bs rows->
   Rows K (.slice (some ⟨id,0,none⟩) row.length c::vs) ((id,.cells false (row.map K.cell))::bs) (row::rows)
section
variable {α:Type}{K:xg α}
theorem Rows.len{vs:List Value}{bs:List (Nat×aC)}{rows:List (List α)}(h:Rows K vs bs rows):vs.length=rows.length/\bs.length=rows.length:=by induction h with|nil=>{simp}|cons _ _ f=>{simp[f]}
theorem Rows.at{vs:List Value}{bs:List (Nat×aC)}{rows:List (List α)}(h:Rows K vs bs rows):∀(r:Nat) (row:List α),rows[r]?=some row->
  ∃id c,vs[r]?=some (.slice (some ⟨id,0,none⟩) row.length c)/\bs[r]?=some (id,.cells false (row.map K.cell))/\(c=if row.length=0 then 0 else 1):=by induction h with|nil=>{intro r row h;simp at h}|cons f _ g=>{intro r row h;cases r with|zero=>{simp at h;subst h;exact⟨_,_,rfl,rfl,f⟩}|succ r=>{exact g r row (by simpa using h)}}
theorem Rows.set{vs:List Value}{bs:List (Nat×aC)}{rows:List (List α)}(h:Rows K vs bs rows):∀(r:Nat) (row row':List α) (id:Nat),rows[r]?=some row->row'.length=row.length->bs[r]?=some (id,.cells false (row.map K.cell))->
  Rows K vs (bs.set r (id,.cells false (row'.map K.cell))) (rows.set r row'):=by induction h with|nil=>{intro r row row' id h;simp at h}|cons i j l=>{intro r row row' id h f g;cases r with|zero=>{simp at h;subst h;simp at g;obtain⟨rfl,_⟩:=g;simp only[TG];rw[<-f];exact Rows.cons (by rw[f];exact i) j}|succ r=>{exact Rows.cons i (l r row row' id (by simpa using h) f (by simpa using g))}}
theorem Rows.snoc{vs:List Value}{bs:List (Nat×aC)}{rows:List (List α)}(h:Rows K vs bs rows){id c:Nat}{row:List α}(g:c=if row.length=0 then 0 else 1) :
  Rows K (vs++[.slice (some ⟨id,0,none⟩) row.length c]) (bs++[(id,.cells false (row.map K.cell))]) (rows++[row]):=by induction h with|nil=>{exact Rows.cons g Rows.nil}|cons f _ i=>{exact Rows.cons f i}
theorem eD{R:Ty α}(hs:R.size=1)(f:∀F x,R.rel F [K.cell x] x){F:aw}{id c:Nat}{row:List α}(l:c=if row.length=0 then 0 else 1){ro:Bool}(o:F id=some (.cells ro (row.map K.cell))) :
  a7 R F (some ⟨id,0,none⟩) row.length c row:=by refine⟨rfl,?_,?_,λh=>(by cases h),λp r=>(by cases r;rfl),λj x i=>?_⟩;{rw[hs,l];split<;>simp};{rw[l];split;{intro _;assumption};{intro h;cases h}};{refine⟨id,0,ro,_,[K.cell x],rfl,o,?_,f F x⟩;rw[hs,yo,R9];unfold bE;have:((row.map K.cell).drop j).take 1=[K.cell x]:=by{have g:j<row.length:=(No.1 i).1;rw[OF (by simpa using g)];rw[Sn g] at i;simp at i;simp[i]};rw[this];rfl}
theorem Rows.arr{R:Ty α}(hs:R.size=1)(f:∀F x,R.rel F [K.cell x] x){vs:List Value}{bs:List (Nat×aC)}{rows:List (List α)}(h:Rows K vs bs rows){F:aw}(t:∀i b,(i,b)∈bs->F i=some b){o c:Nat}{ro:Bool}
  (r:c=if rows.length=0 then 0 else 1) (C:F o=some (.cells ro vs)):a7 (bR R) F (some ⟨o,0,none⟩) rows.length c rows:=by refine⟨rfl,?_,?_,λh=>(by cases h),λp I=>(by cases I;rfl),λj x J=>?_⟩;{show c=0\/c=1;rw[r];split<;>simp};{rw[r];split;{intro _;assumption};{intro h;cases h}};{obtain⟨id,c2,l,P,U⟩:=h.at j x J;refine⟨o,0,ro,vs,[_],rfl,C,?_,_,_,_,rfl,eD hs f U (t _ _ (SL P))⟩;show bE vs (0+j*1) 1=_;rw[yo,R9];unfold bE;have g:j<vs.length:=(No.1 l).1;have:(vs.drop j).take 1=[.slice (some ⟨id,0,none⟩) x.length c2]:=by{rw[OF g];rw[Sn g] at l;simp at l;simp[l]};rw[this];rfl}
end
end Go.Abs
/-
 From a function's contract over the abstract machine to its calls in the model: arguments that are numbers and slices of numbers.
-/
set_option linter.unusedVariables false
namespace Go.Abs
open Go Go.ChangeShapes Go.WideShapes Go.RowKit
theorem Gg{σ:bG}:∀{v:Value},vi v=true->aV σ v v
 | .int _ _,_=>rfl
 | .bool _,_=>rfl
 | .float ..,h=>by cases h
 | .complex ..,h=>by cases h
 | .string ..,h=>by cases h
 | .pointer ..,h=>by cases h
 | .slice ..,h=>by cases h
 | .map ..,h=>by cases h
 | .chan ..,h=>by cases h
 | .func ..,h=>by cases h
 | .nilFunc,h=>by cases h
 | .iface ..,h=>by cases h
 | .nilIface,h=>by cases h
 | .agg ..,h=>by cases h
 | .tuple ..,h=>by cases h
def dA:List (Nat×Loc)->Nat->Option Loc
 | [],_=>none
 | (i,l)::f,j=>if i=j then some l else dA f j
theorem kx:∀(a b:List (Nat×Loc)) (j:Nat),dA (a++b) j=match dA a j with | some l=>some l | none=>dA b j
 | [],b,j=>by simp[dA]
 | (i,l)::a,b,j=>by{simp only[SR,dA];split;{rfl};{exact kx a b j}}
theorem Jg{l:List (Nat×aC)}(f:(l.map (·.1)).Nodup){i:Nat}{b:aC}(h:(i,b)∈l):(iA l).get i=some b:=by induction l with|nil=>{cases h}|cons p l g=>{simp only[y2,Ss] at f;simp only[iA];rw[T.lz];rcases IN.1 h with rfl | h;{simp};{have:i≠p.1:=λe=>f.1 (e▸SZ h);rw[mb this];exact g f.2 h}}
theorem Ah{C:Ctx}{P:Program}(ok:C.Ok P)(ac:lf C P){f:FuncId}{aa vs:List Value}{blks:List (Nat×aC)}{locs:List (Nat×Loc)}{nx:Nat}{W:World}
  (J:∀p∈blks,qf p.2=true/\p.1<nx/\∃l,dA locs p.1=some l/\∀σ,nU σ W l p.2)
  (ad:(blks.map (·.1)).Nodup) (t:∀g,g<C.cM->∃l,dA locs g=some l/\l.cf=g/\l.off=0) (I:∀i,nx<=i->dA locs i=none)
  (ae:aZ (dA locs) aa vs) (spec:∀F,(∀p∈blks,F p.1=some p.2)->Abs.Spec C f aa F [] λ_ v o=>o=[]/\v=.bool true) :
  Calls P f ⟨vs⟩ W λe w'=>e=.returned (.bool true)/\Below W.heap.size W w':=by have r:∀i b,(⟨nx,iA blks⟩:au).get i=some b->(i,b)∈blks:=λi b h=>j8 blks i b h;have af:St (⟨nx,iA blks⟩:au).get ([]++[]) ⟨nx,iA blks⟩:= ⟨λi b h=>h,λp R=>(by cases R),λp R=>(by cases R),Tu,λi b h=>(J _ (r i b h)).2.1⟩;obtain⟨v,h',F',an,⟨m,hm⟩,_,_,_,rfl⟩:=spec (⟨nx,iA blks⟩:au).get (λp R=>Jg ad R) [] _ af;have U:dT (dA locs) (⟨nx,iA blks⟩:au).get W:=by{constructor;{intro i b hi;obtain⟨_,_,l,h1,h2⟩:=J _ (r i b hi);exact⟨l,h1,h2 _⟩};{intro i j b c li lj hi hj _ ab;rw[mL (J _ (r i b hi)).1,mL (J _ (r j c hj)).1] at ab;simp at ab}};refine((DY ok ac m).run f aa _ _ _ (hm m (mc _)) (λi b h=>(J _ (r i b h)).2.1) (dA locs) W vs t U ae (λi hi _=>I i hi)).mono ?_;rintro e w' ⟨v',av,rfl,hv,hs,k7⟩;have hv:v'=.bool true:=hv;subst hv;exact⟨rfl,k7.below λi b h=>mL (J _ (r i b h)).1⟩
theorem D9{W:World}{b off:Nat}{cs:List Value}(r:cs≠[])(C:∀j v,cs[j]?=some v->W.cell? ⟨b,off+j,none⟩=some v)(hw:cs.all vi=true) :
  ∃l:Loc,l.cf=b/\l.off=off/\off+cs.length<=l.size/\∀σ,nU σ W l (.cells true cs):=by obtain⟨c,f,rfl⟩:=List.exists_cons_of_ne_nil r;have t:=C 0 c rfl;unfold World.cell? at t;split at t;{rename_i arr ty J I;have g:∀j v,(c::f)[j]?=some v->arr[off+j]?=some v:=λj v p=>by{have:=C j v p;unfold World.cell? at this;simp only[I] at this;simpa using this};have hlen:off+(c::f).length<=arr.size:=by{have:=g f.length ((c::f)[f.length]'(by simp)) (Sn (by simp));have:=(Sc.1 this).1;simp;omega};have i:(arr.toList.drop off).take (c::f).length=c::f:=by{apply Sb;intro j;rw[Sg,Sj];split;{rename_i p;have:=g j ((c::f)[j]) (Sn p);rw[Sn p,<-this];simp};{rename_i p;rw[D2 (by omega)]}};refine⟨⟨b,off,arr.size⟩,rfl,rfl,hlen,λσ=>⟨arr,ty,J,I,rfl,λh=>(by cases h),hlen,?_⟩⟩;have o:∀l:List Value,l.all vi=true->aZ σ l l:=by{intro l;induction l with|nil=>{intro _;rfl}|cons v l P=>{intro h;simp only[List.all_cons,ti] at h;exact⟨v,l,rfl,Gg h.1,P h.2⟩}};show aZ σ (c::f) ((arr.toList.drop off).take (c::f).length);rw[i];exact o _ hw};{cases t}
def CN(g:TypeId)(F:aw):List TypeId->List Value->Prop
 | [],aa=>aa=[]
 | t::ts,aa=>∃a f,aa=a::f/\(if t=g then ∃n,a=.int .i64 n else ∃b m c l,a=.slice b m c/\a7 fF F b m c l/\m<=9223372036854775807)/\CN g F ts f
section
variable {H:Type}{enc:TypeId×Value->H}{P:Program}{W:World}
theorem K5{zs:List Int}{len:Nat}(o:len<=zs.length)(r:zs≠[]){k:Nat}{F:aw}(i:F k=some (.cells true (zs.map λn=>Value.int .i64 n))):a7 fF F (some ⟨k,0,none⟩) len 1 (zs.take len):=by refine⟨by simp;omega,.inr rfl,λh=>(by cases h),λh=>(by cases h),λp l=>(by cases l;rfl),λj x f=>?_⟩;rw[Sg] at f;split at f;{refine⟨k,0,true,_,[.int .i64 x],rfl,i,?_,rfl⟩;show bE _ (0+j*1) 1=_;rw[yo,R9];unfold bE;have g:j<zs.length:=(No.1 f).1;have:((zs.map λn=>Value.int .i64 n).drop j).take 1=[.int .i64 x]:=by{rw[OF (by simpa using g)];rw[Sn g] at f;simp at f;simp[f]};rw[this];rfl};{cases f}
theorem Ec{tI tS:TypeId}(hI:P.underlying tI=some (.int .i64))(hS:P.underlying tS=some (.slice tI))(hc:P.cellsOf tI=1)(af:tS≠tI){base:Nat} :
  ∀(ts:List TypeId) (vs:List Value) (ds:List (DataW H)) (ps:List MemPlace) (o:Nat),DataW.TrodAll enc P W 0 (λ_=>true) true ts vs ds ps->
  (∀(j:Nat) (t:TypeId) (v:Value),ts[j]?=some t->vs[j]?=some v->Value.okWide P W .any base t v)->(∀t∈ts,t=tI\/t=tS)->
  ∃(aa:List Value) (blks:List (Nat×aC)) (locs:List (Nat×Loc)),(∀p∈blks,o<=p.1/\p.1<o+ts.length/\qf p.2=true/\∃l,dA locs p.1=some l/\∀σ,nU σ W l p.2)/\
   (∀i l,dA locs i=some l->o<=i/\i<o+ts.length)/\(blks.map (·.1)).Nodup/\(∀σ:bG,(∀i l,dA locs i=some l->σ i=some l)->aZ σ aa vs)/\
   (∀F:aw,(∀p∈blks,F p.1=some p.2)->CN tI F ts aa)/\
   (∀W',Below W.heap.size W W'->∀U:Nat->Bool,(∀p∈ps,U p.block=true)->DataW.TrodAll enc P W' 0 U true ts vs ds ps)
 | [],vs,ds,ps,o,h,_,_=>by{obtain⟨rfl,rfl,rfl⟩:=trodAll_nil h;exact⟨[],[],[],λp hp=>(by cases hp),λi l g=>(by cases g),Tu,λσ _=>rfl,λF _=>rfl,λW' _ U _=>rfl⟩}
 | t::ts,vs,ds,ps,o,h,a8,a9=>by{obtain⟨v,ba,d,bb,p,q,rfl,rfl,rfl,hd,ax⟩:=trodAll_cons h;obtain⟨aa,blks,locs,h1,h2,h3,h4,h5,h6⟩:=Ec hI hS hc af ts ba bb q (o+1) ax (λj t v hj hv=>a8 (j+1) t v (by simpa using hj) (by simpa using hv)) (λt ht=>a9 t (ma _ ht));have hv:=a8 0 t v rfl rfl;have f:∀j,o+1<=j->j<o+1+ts.length->o<=j/\j<o+(t::ts).length:=λj a b=>by{simp;omega};rcases a9 t (R2 ..) with rfl | rfl;{obtain⟨n,rfl,rfl,rfl,az⟩:=open_int hI hv hd;refine⟨.int .i64 n::aa,blks,locs,λp hp=>?_,λi l g=>?_,h3,λσ C=>⟨_,_,rfl,rfl,h4 σ C⟩,λF hF=>⟨_,_,rfl,by rw[nw rfl];exact⟨n,rfl⟩,h5 F hF⟩,λW' hW U J=>?_⟩;{obtain⟨a,b,r⟩:=h1 p hp;exact⟨(f _ a b).1,(f _ a b).2,r⟩};{obtain⟨a,b⟩:=h2 i l g;exact f _ a b};{exact⟨[],q,shut_int hI az,h6 W' hW U (λp hp=>J p (by simpa using hp)),by simp⟩}};{obtain⟨av,len,cap,rfl⟩:=okWide_slice hS hv;obtain⟨fuel,hf⟩:=hd;rcases open_ints hS hI hc hf with ⟨e1,e2⟩ | ⟨a,cg,ch,zs,e1,hb,g,hm,hz,hx,R,az⟩;{simp only[Value.cells,Te,Uw] at e1;cases e1;simp only[R7] at e2;obtain⟨rfl,rfl⟩:=e2;refine⟨.slice none 0 0::aa,blks,locs,λp hp=>?_,λi l g=>?_,h3,λσ C=>⟨_,_,rfl,⟨rfl,rfl,rfl⟩,h4 σ C⟩,λF hF=>⟨_,_,rfl,by rw[mb af];exact⟨none,0,0,[],rfl,a7.dF _ _,by decide⟩,h5 F hF⟩,λW' hW U J=>?_⟩;{obtain⟨a,b,r⟩:=h1 p hp;exact⟨(f _ a b).1,(f _ a b).2,r⟩};{obtain⟨a,b⟩:=h2 i l g;exact f _ a b};{refine⟨[],q,⟨1,?_⟩,h6 W' hW U (λp hp=>J p (by simpa using hp)),by simp⟩;rw[DataW.trod_step];unfold DataW.trodStep;simp[hS,Value.cells]}};{simp only[Value.cells,Te,Uw] at e1;cases e1;simp only[R7] at hx;obtain⟨rfl,rfl⟩:=hx;simp only[SN] at hz;have ac:∀W',Below W.heap.size W W'->∀U:Nat->Bool,(∀p∈MemPlace.row a zs.length++q,U p.block=true)->DataW.TrodAll enc P W' 0 U true (t::ts) (.slice (some a) len cap::ba) (.slice (lits .i64 (zs.take len)) (lits .i64 (zs.drop len))::bb) (MemPlace.row a zs.length++q):=by{intro W' hW U J;refine⟨_,q,⟨2,?_⟩,h6 W' hW U (λp hp=>J p (by simp[hp])),rfl⟩;have be:zs.length=if U a.block then cap else len:=by{rcases Sd cap with h0 | h0;{have:len=0:=by{omega};rw[hz,h0,this];split<;>rfl};{have:U a.block=true:=by{have bf:MemPlace.cell a.block a.off∈MemPlace.row a zs.length:=by{unfold MemPlace.row;simp only[tx,Sr];exact⟨0,by omega,by simp⟩};exact J _ (IT _ bf)};rw[this,hz];rfl}};refine shut_ints 0 hS hI hc (BY _) g hm be (λi hi=>?_) az;have h7:=R i hi;have bi:(a.add i).block<W.heap.size:=by{unfold World.cell? at h7;split at h7;{rename_i hh;exact(Sc.1 hh).1};{cases h7}};rw[hW.cell bi];exact h7};rcases Sd cap with h0 | h0;{have b5:len=0:=by{omega};subst h0;subst b5;refine⟨.slice (some ⟨o,0,none⟩) 0 0::aa,blks,(o,⟨a.block,0,0⟩)::locs,λp hp=>?_,λi l g=>?_,h3,λσ C=>⟨_,_,rfl,⟨⟨a.block,0,0⟩,a,0,C o _ (by simp[dA]),rfl,rfl,mc _,λ_=>rfl,λh=>absurd rfl h⟩,h4 σ λi l g=>C i l ?_⟩, λF hF=>⟨_,_,rfl,by rw[mb af];exact⟨_,0,0,[],rfl,⟨rfl,.inl rfl,λ_=>rfl,λh=>(by cases h),λp hp=>(by cases hp;rfl),λj x hj=>(by simp at hj)⟩,by decide⟩,h5 F hF⟩,ac⟩;{obtain⟨a1,b1,r1,l,r2,r3⟩:=h1 p hp;refine⟨(f _ a1 b1).1,(f _ a1 b1).2,r1,l,?_,r3⟩;simp only[dA];rw[mb (by omega)];exact r2};{simp only[dA] at g;split at g;{rename_i e;subst e;simp};{obtain⟨a1,b1⟩:=h2 i l g;exact f _ a1 b1}};{have:=h2 i l g;simp only[dA];rw[mb (by omega)];exact g}};{have ar:zs≠[]:=by{intro e;subst e;simp at hz;omega};have I:a.spot=none:=by{have:=R 0 (by omega);unfold World.cell? at this;split at this;{split at this;{cases this};{rename_i hs;have bl:a.spot.isSome=false:=by{simpa [Addr.add] using hs};cases J:a.spot with|none=>{rfl}|some s=>{rw[J] at bl;cases bl}}};{cases this}};obtain⟨l0,b6,b7,b8,b9⟩:=D9 (W:=W) (b:=a.block) (off:=a.off) (cs:=zs.map λn=>Value.int .i64 n) (by simpa using ar) (λj v hj=>by{rw[zm] at hj;cases an:zs[j]? with|none=>{rw[an] at hj;cases hj}|some z=>{rw[an] at hj;simp at hj;subst hj;have ca:j<zs.length:=(No.1 an).1;have:=R j ca;rw[show a.add j=⟨a.block,a.off+j,none⟩ by{obtain⟨ab,ao,cx⟩:=a;simp only at I;subst I;exact add_plain ab ao j}] at this;rw[this];simp[List.getD,an]}}) (by simp[vi]);rw[sh] at b8;refine⟨.slice (some ⟨o,0,none⟩) len 1::aa,(o,.cells true (zs.map λn=>Value.int .i64 n))::blks,(o,l0)::locs,λp hp=>?_,λi l g=>?_,?_,λσ C=>⟨_,_,rfl,⟨l0,a,cap,C o _ (by simp[dA]),rfl,rfl,g,λh=>(by cases h),λ_=>⟨?_,?_⟩⟩,h4 σ λi l g=>C i l ?_⟩, λF hF=>⟨_,_,rfl,by rw[mb af];exact⟨_,len,1,zs.take len,rfl,K5 (by omega) ar (hF (o,_) (R2 ..)),by unfold maxLen at hm;omega⟩,h5 F (λp hp=>hF p (ma _ hp))⟩,ac⟩;{rcases IN.1 hp with rfl | hp;{exact⟨mc _,by simp,by simp[qf,vi],l0,by simp[dA],b9⟩};{obtain⟨a1,b1,r1,l,r2,r3⟩:=h1 p hp;refine⟨(f _ a1 b1).1,(f _ a1 b1).2,r1,l,?_,r3⟩;simp only[dA];rw[mb (by omega)];exact r2}};{simp only[dA] at g;split at g;{rename_i e;subst e;simp};{obtain⟨a1,b1⟩:=h2 i l g;exact f _ a1 b1}};{simp only[y2,Ss];refine⟨λhm=>?_,h3⟩;obtain⟨p,hp,e⟩:=tx.1 hm;have:=(h1 p hp).1;omega};{rw[b6,b7];cases a;simp at I;subst I;rfl};{show l0.off+0+cap*1<=l0.size;omega};{have:=h2 i l g;simp only[dA];rw[mb (by omega)];exact g}}}}}
end
end Go.Abs
/-
 Calls that are lent one slot and handed another,or that give back a new slot;raw values;tables.
-/
set_option linter.unusedVariables false
namespace Go.Abs
open Go
section
variable {C:Ctx}{T:RT}{n:Nat}{k:bY}{F:aw}{own:bH}{ops rest:List Oper}{o:Oper}{Q:bY->aw->bH->List Rec->Prop}{α:Type}{R:Ty α}
theorem WT.Je(p:Nat){f:FuncId}{fn:Func}{j:Array Operand}{ts:Array TypeId}{args:List Value}{B:List (Nat×aC)}{P:Value->List (Nat×aC)->Prop}(hf:C.func f=some fn)(hb:fn.body.isSome=true)(r:o.op=.call ⟨.value (.func f),j,ts⟩)
  (hw:aH ops k o=some true) {dst:Nat} (t:o.dst=some dst) (hn:Nat.blt dst n=true) (hv:cZ (aW C k) j.toList=some args) (U:own[p]?=some B)
  (spec:∀G,aw.le F G->(∀i b,(i,b)∈B->G i=some b)->Spec C f args G [] λ_ v o=>∃g,o=[g]/\P v g)
  (h:∀v g,P v g->WT C n ops rest ((dst,v)::k) F (g::own) (λk2 F2 own2 rs=>Q k2 F2 own2 (⟨F,own,F,g::own,[]⟩::rs))) :
  WT C n ops (o::rest) k F own Q:=by refine WT.step (l:=[]) (by rw[r];rfl) λe h' hk hs=>?_;obtain⟨v,h1,F1,ab,⟨m,hd⟩,hF,I,o',rfl,g,rfl,J⟩:=Spec.H8 spec (own.eraseIdx p) h' (hs.perm (cw U));refine⟨v,h1,F,g::own,⟨m,λN hN=>?_⟩,aw.le.refl F,?_,by rw[t,aA hn];exact h v g J⟩;{unfold dj;rw[eJ hk hw];have:aQ C (aW C k) h' o.op=some (.call f args):=by{rw[r];simp only[aQ,aW,hv,kO,hf,hb,xf];simp};simp only[dY hk.eval this,hd N hN]};{refine(I.nh hF).perm ((List.Perm.swap _ _ _).trans (List.Perm.cons g ?_));exact(cw U).symm}
theorem WT.mA{f:FuncId}{fn:Func}{j:Array Operand}{ts:Array TypeId}{args:List Value}{P:aw->Value->List (Nat×aC)->Prop}(t:C.func f=some fn)(I:fn.body.isSome=true)(p:o.op=.call ⟨.value (.func f),j,ts⟩)
  (hw:aH ops k o=some true) {dst:Nat} (l:o.dst=some dst) (J:Nat.blt dst n=true) (U:cZ (aW C k) j.toList=some args)
  (spec:Spec C f args F [] λg v o=>∃i,o=[i]/\P g v i)
  (h:∀g v i,aw.le F g->P g v i->WT C n ops rest ((dst,v)::k) g (i::own) (λk2 F2 own2 rs=>Q k2 F2 own2 (⟨F,own,g,i::own,[]⟩::rs))) :
  WT C n ops (o::rest) k F own Q:=
 WT.KM t I p hw l J U spec (ri _) (λg v r hF hP=>by obtain⟨i,rfl,hp⟩:=hP;exact h g v i hF hp)
theorem WT.pV(p q:Nat){f:FuncId}{fn:Func}{j:Array Operand}{ts:Array TypeId}{args:List Value}{B D:List (Nat×aC)}{J:bH}{db:List (Nat×aC)->bH}{P:Value->List (Nat×aC)->Prop}(hf:C.func f=some fn)(hb:fn.body.isSome=true)(r:o.op=.call ⟨.value (.func f),j,ts⟩)
  (hw:aH ops k o=some true) {dst:Nat} (t:o.dst=some dst) (hn:Nat.blt dst n=true) (hv:cZ (aW C k) j.toList=some args) (hp:own.Perm (B::D::J)) (I:∀g,(B::g::J).Perm (db g))
  (spec:∀G,aw.le F G->(∀i b,(i,b)∈B->G i=some b)->Spec C f args G [D] λ_ v o=>∃g,o=[g]/\P v g)
  (h:∀v g,P v g->WT C n ops rest ((dst,v)::k) F (db g) (λk2 F2 own2 rs=>Q k2 F2 own2 (⟨F,own,F,db g,[]⟩::rs))) :
  WT C n ops (o::rest) k F own Q:=by refine WT.step (l:=[]) (by rw[r];rfl) λe h' hk hs=>?_;obtain⟨v,h1,F1,ac,⟨m,hd⟩,hF,U,o',rfl,g,rfl,aa⟩:=Spec.H8 spec J h' (hs.perm hp);refine⟨v,h1,F,db g,⟨m,λN hN=>?_⟩,aw.le.refl F,(U.nh hF).perm (I g),by rw[t,aA hn];exact h v g aa⟩;unfold dj;rw[eJ hk hw];have:aQ C (aW C k) h' o.op=some (.call f args):=by{rw[r];simp only[aQ,aW,hv,kO,hf,hb,xf];simp};simp only[dY hk.eval this,hd N hN]
end
def zC:Ty Value where
 size:=1
 rel:=λ_ l x=>l=[x]/\Go.Abs.one x=true
 len:=λ_ _ _ h=>by rw[h.1];rfl
 one:=λ_ _ _ h=>by rw[h.1];simp[h.2]
 mono:=λ_ _ _ _ _ h=>h
theorem Aq{F:aw}{cs vs:List Value}(h:aF zC F cs vs):cs=vs:=by induction h with|nil=>{rfl}|cons f _ g=>{rw[f.1,g];rfl}
theorem n7{α:Type}(x:α)(a b c:List α):(x::(a++(b++c))).Perm (a++((b++[x])++c)):=by have h:=(T4 (a:=x) (l₁:=a++b) (l₂:=c)).symm;simpa using h
section
variable {α:Type}{K:xg α}
def PD(M:List (List α))(i j:Nat)(x:α):List (List α):=match M[i]? with
 | some row=>M.set i (row.set j x)
 | none=>M
def Fj(M:List (List α))(i j:Nat):Option α:=match M[i]? with
 | some row=>row[j]?
 | none=>none
structure lq(n m:Nat)(M:List (List α)):Prop where
 size:M.length=n
 row:∀r∈M,r.length=m
theorem lq.put{n m:Nat}{M:List (List α)}(h:lq n m M)(i j:Nat)(x:α):lq n m (PD M i j x):=by unfold PD;cases f:M[i]? with|none=>{exact h}|some row=>{(refine⟨by simp[h.size],λr hm=>?_⟩;rcases Sy hm with hm | rfl);{exact h.row r hm};{simp[h.row row (SL f)]}}
end
end Go.Abs
namespace Go.Abs
theorem vY{α:Type}(z y:α)(S bs X own:List α)(h:bs.Perm (y::X)):(z::((S++bs)++own)).Perm (y::((S++X)++(z::own))):=by have f:((S++bs)++own).Perm (y::((S++X)++own)):=by{have g:(S++bs).Perm (y::(S++X)):=(h.append_left S).trans T4;simpa using g.append_right own};have i:(z::((S++X)++own)).Perm ((S++X)++(z::own)):=T4.symm;exact(f.cons z).trans ((List.Perm.swap y z _).trans (i.cons y))
theorem lq.setRow{α:Type}{n m:Nat}{M:List (List α)}(h:lq n m M)(i:Nat){row:List α}(f:row.length=m):lq n m (M.set i row):=by (refine⟨by simp[h.size],λr hm=>?_⟩;rcases Sy hm with hm | rfl);{exact h.row r hm};{exact f}
end Go.Abs
/-
 Maps of one's own;elements that are written whole;trees;calls that hand a slot over and freeze.
-/
set_option linter.unusedVariables false
namespace Go.Abs
open Go
def kR(T:RT)(ok:TypeId->Value->Bool):List (Nat×Nat)->List Value->Bool
 | [],_=>true
 | (off,f)::g,cs=>(match nQ T cs f off with
  | some a=>ok f a
  | none=>false)&&kR T ok g cs
def OJ(T:RT):Nat->TypeId->Value->Bool
 | 0,_,_=>false
 | n+1,t,v=>
  match rowOf T t with
  | some r=>match r.d,v with
   | .struct f,.agg ⟨cs⟩=>kR T (OJ T n) f cs
   | .int _,v=>!bX v
   | .bool,v=>!bX v
   | .string,v=>!bX v
   | _,_=>false
  | none=>false
section
variable {C:Ctx}{T:RT}(hT:aP C T=true)
include hT
theorem lM{g i:TypeId->Value->Bool}(he:∀t v,g t v=true->i t v=true):∀(j:List Field) (cs:List Value),kR T g (j.map λf=>(f.offset,f.type)) cs=true->km C i j cs=true
 | [],_,_=>rfl
 | f::j,cs,q=>by{simp only[y2,kR,ti] at q;obtain⟨l,o⟩:=q;unfold km;rw[lM he j cs o,Uc];split at l;{rename_i a p;rw[bh hT p];exact he _ _ l};{cases l}}
theorem Ct:∀(n:Nat) (t:TypeId) (v:Value),OJ T n t v=true->eA C n t v=true
 | 0,_,_,q=>by cases q
 | n+1,t,v,q=>by{unfold OJ at q;split at q;{rename_i r g;split at q;{rename_i l cs f;obtain⟨j,hu,i⟩:=gr hT g f;unfold eA;simp only[hu];rw[i] at q;exact lM hT (Ct n) _ _ q};{rename_i k f;unfold eA;rw[tL hT g f];simpa [rk] using q};{rename_i f;unfold eA;rw[tu hT g f];simpa [rk] using q};{rename_i f;unfold eA;rw[kN hT g f];simpa [rk] using q};{cases q}};{cases q}}
theorem dJ{t k e:Nat}{r:Row}(q:rowOf T t=some r)(g:r.d=.map k e):C.g9 t=some (.map k e):=by (obtain⟨_,_,_,_,d,i,f⟩:=dD hT q;rw[g] at f;cases d<;>first | (cases f;done) | skip);simp only[j5,ti] at f;rw[i,R6 f.1,R6 f.2]
end
structure oW(C:Ctx)(t:TypeId)(κ:Type) where
 key:κ->Value
 ok:∀k,eA C 8 t (key k)=true
 eq:∀a b,(a=b/\qv C 8 t (key a) (key b)=some true)\/(a≠b/\qv C 8 t (key a) (key b)=some false)
abbrev bS(κ:Type):=List (κ×Value)
def aK{C:Ctx}{t:TypeId}{κ:Type}(K:oW C t κ)(m:bS κ):List (Value×Value):=m.map λp=>(K.key p.1,p.2)
def look{κ:Type}[DecidableEq κ]:bS κ->κ->Option Value
 | [],_=>none
 | (k,v)::m,k2=>if k2=k then some v else look m k2
def cy{κ:Type}[DecidableEq κ]:bS κ->κ->Value->bS κ
 | [],k,v=>[(k,v)]
 | (k',v')::m,k,v=>if k=k' then (k',v)::m else (k',v')::cy m k v
theorem fR{κ:Type}[DecidableEq κ](k k2:κ)(v:Value):∀m:bS κ,look (cy m k v) k2=if k2=k then some v else look m k2
 | []=>by simp only[cy,look]
 | (k',v')::m=>by{simp only[cy];by_cases h:k=k';{subst h;simp only[SN,look];by_cases f:k2=k<;>simp[f]};{simp only[h,S8,look,fR k k2 v m];by_cases f:k2=k';{subst f;have:¬k2=k:=λe=>h e.symm;simp[this]};{simp[f]}}}
section
variable {C:Ctx}{T:RT}{t:TypeId}{κ:Type}[DecidableEq κ](K:oW C t κ)
theorem fA(k:κ):∀(m:bS κ) (i:Nat),(look m k=none/\eZ C t (K.key k) (aK K m) i=some none)\/
  ∃j v,look m k=some v/\eZ C t (K.key k) (aK K m) i=some (some (i+j,v))/\(aK K m)[j]?=some (K.key k,v)/\∀v',(aK K m).set j (K.key k,v')=aK K (cy m k v')
 | [],i=>.inl ⟨rfl,rfl⟩
 | (k',v')::m,i=>by{rcases K.eq k k' with ⟨rfl,h⟩ | ⟨f,h⟩;{refine .inr ⟨0,v',by simp[look],?_,rfl,λw=>by simp[aK,cy]⟩;simp only[aK,y2,eZ,h];rfl};{rcases fA k m (i+1) with ⟨g,l⟩ | ⟨j,v,g,l,o,p⟩;{refine .inl ⟨by simp only[look];rw[mb f];exact g,?_⟩;simp only[aK,y2,eZ,h];exact l};{refine .inr ⟨j+1,v,by simp only[look];rw[mb f];exact g,?_,o,λw=>?_⟩;{simp only[aK,y2,eZ,h];rw[show i+(j+1)=i+1+j by omega];exact l};{have:=p w;simp only[aK] at this;simp only[aK,y2,S7,cy,mb f,this]}}}}
theorem kj(k:κ)(v:Value):∀m:bS κ,look m k=none->aK K (cy m k v)=aK K m++[(K.key k,v)]
 | [],_=>rfl
 | (k',v')::m,h=>by{simp only[look] at h;split at h;{cases h};{rename_i f;have:=kj k v m h;simp only[aK] at this;simp only[cy,mb f,aK,y2,this];rfl}}
omit [DecidableEq κ] in
theorem fS(k:κ):bX (K.key k)=false:=nm (K.ok k)
omit [DecidableEq κ] in
theorem de:∀m:bS κ,alive (aK K m)=aK K m
 | []=>rfl
 | (k,v)::m=>by{have:=de m;simp only[aK] at this;simp only[aK,y2,alive,fS K k,zy,this]}
omit [DecidableEq κ] in
theorem jx(x:Value×Value):∀(m:bS κ) (j:Nat),aJ x (aK K m) j=(aK K m).set j x
 | [],j=>by simp[aK,aJ]
 | (k,v)::m,0=>by simp only[aK,y2,aJ,fS K k,zy,TG]
 | (k,v)::m,j+1=>by{have:=jx x m j;simp only[aK] at this;simp only[aK,y2,aJ,fS K k,zy,S7,this]}
variable {n:Nat}{k:bY}{F:aw}{own:bH}{ops rest:List Oper}{o:Oper}{Q:bY->aw->bH->List Rec->Prop}
theorem WT.makeMap{j:TypeId}{d:Nat}(f:o.op=.makeMap j none)(hw:aH ops k o=some true)(g:o.dst=some d)(p:Nat.blt d n=true)
  (h:∀i,F i=none->WT C n ops rest ((d,.map (some i))::k) F ([(i,.map [])]::own) (λk2 r own2 rs=>Q k2 r own2 (⟨F,own,F,[(i,.map [])]::own,[]⟩::rs))):WT C n ops (o::rest) k F own Q:=by refine WT.new (mk:=λi=>.map (some i)) (l:=[]) hw (by rw[f];rfl) (λI _=>?_) (λi hi=>by rw[g,aA p];exact h i hi);rw[f];rfl
theorem WT.Ny(hT:aP C T=true)(p:Nat){U et:TypeId}{mo ko:Operand}{i:Nat}{m:bS κ}{key:κ}{r:Row}{z:Value}{B:List (Nat×aC)}{d:Nat}(g:o.op=.lookup U mo ko true)(hw:aH ops k o=some true)(f:o.dst=some d)(hn:Nat.blt d n=true)
  (hm:aW C k mo=some (.map (some i))) (hk:aW C k ko=some (K.key key)) (hp:own[p]?=some B) (hq:(i,aC.map (aK K m))∈B) (hr:rowOf T U=some r) (hd:r.d=.map t et) (hz:gq T et=some z)
  (h1:∀v,look m key=some v->WT C n ops rest ((d,.tuple ⟨[v,.bool true]⟩)::k) F own (λk2 l own2 rs=>Q k2 l own2 (⟨F,own,F,own,[i]⟩::rs)))
  (h2:look m key=none->WT C n ops rest ((d,.tuple ⟨[z,.bool false]⟩)::k) F own (λk2 l own2 rs=>Q k2 l own2 (⟨F,own,F,own,[i]⟩::rs))):WT C n ops (o::rest) k F own Q:=by have hl:bg (aW C k) o.op=some [i]:=by{rw[g];simp only[bg,hm]};rcases fA K key m 0 with ⟨I,J⟩ | ⟨j,v,I,J,_,_⟩;{refine WT.still hw hl (λh0 P=>?_) (by rw[f,aA hn];exact h2 I);have R:=P.has hp hq;rw[g];simp only[aQ,hm,hk,fC,dJ hT hr hd,ed,R,de K m,K.ok,J,cT hT hz];rfl};{refine WT.still hw hl (λh0 P=>?_) (by rw[f,aA hn];exact h1 v I);have R:=P.has hp hq;rw[g];simp only[aQ,hm,hk,fC,dJ hT hr hd,ed,R,de K m,K.ok,J];rfl}
theorem WT.nu(hT:aP C T=true)(p:Nat){J P:TypeId}{R U:Operand}{i:Nat}{m:bS κ}{key:κ}{r:Row}{z:Value}{B:List (Nat×aC)}{d:Nat}(f:o.op=.lookup J R U false)(hw:aH ops k o=some true)(g:o.dst=some d)(hn:Nat.blt d n=true)
  (hm:aW C k R=some (.map (some i))) (hk:aW C k U=some (K.key key)) (hp:own[p]?=some B) (hq:(i,aC.map (aK K m))∈B) (hr:rowOf T J=some r) (hd:r.d=.map t P) (hz:gq T P=some z)
  (h1:WT C n ops rest ((d,(look m key).getD z)::k) F own (λk2 F2 own2 rs=>Q k2 F2 own2 (⟨F,own,F,own,[i]⟩::rs))):WT C n ops (o::rest) k F own Q:=by have hl:bg (aW C k) o.op=some [i]:=by{rw[f];simp only[bg,hm]};(refine WT.still hw hl (λh0 s0=>?_) (by rw[g,aA hn];exact h1);have hb:=s0.has hp hq;rw[f];rcases fA K key m 0 with ⟨l,I⟩ | ⟨j,v,l,I,_,_⟩);{simp only[aQ,hm,hk,fC,dJ hT hr hd,ed,hb,de K m,K.ok,I,cT hT hz,l];rfl};{simp only[aQ,hm,hk,fC,dJ hT hr hd,ed,hb,de K m,K.ok,I,l];rfl}
theorem WT.yM(hT:aP C T=true)(p q:Nat){I et:TypeId}{J P R:Operand}{i:Nat}{m:bS κ}{key:κ}{v:Value}{r:Row}{B U:List (Nat×aC)}{be:bH}(f:o.op=.mapUpdate I J P R)(hw:aH ops k o=some true)(g:o.dst=none)
  (hm:aW C k J=some (.map (some i))) (hk:aW C k P=some (K.key key)) (hv:aW C k R=some v) (hp:own[p]?=some B) (hq:B[q]?=some (i,aC.map (aK K m))) (hr:rowOf T I=some r) (hd:r.d=.map t et)
  (hB:wy B q (i,.map (aK K (cy m key v)))=some U) (ho:jG own p U=some be)
  (h:WT C n ops rest k F be (λk2 F2 own2 rs=>Q k2 F2 own2 (⟨F,own,F,be,[]⟩::rs))):WT C n ops (o::rest) k F own Q:=by (have e1:=gJ _ _ _ _ hB;have e2:=cA _ _ _ _ ho;subst e1;subst e2;refine WT.put (v:=cl) (b':=.map (aK K (cy m key v))) p q hp hq hw (by rw[f];rfl) (λh0 s0 hb=>?_) (by rw[g];exact h);rw[f];rcases fA K key m 0 with ⟨h3,l⟩ | ⟨j,v2,h3,l,h5,h6⟩);{simp only[aQ,hm,hk,hv,bW,dJ hT hr hd,hb,de K m,K.ok,l,kj K key v m h3];rfl};{simp only[aQ,hm,hk,hv,bW,dJ hT hr hd,hb,de K m,jx K,K.ok,l,yo,h5,eP,<-h6 v];rfl}
end
section
variable {C:Ctx}{T:RT}{n:Nat}{k:bY}{F:aw}{own:bH}{ops rest:List Oper}{o:Oper}{Q:bY->aw->bH->List Rec->Prop}{α:Type}{R:Ty α}
theorem WT.cC(p:Nat){f:FuncId}{fn:Func}{j:Array Operand}{ts:Array TypeId}{args:List Value}{B:List (Nat×aC)}{up:List (Nat×aC)->bH}{P:aw->Value->List (Nat×aC)->Prop}(hf:C.func f=some fn)(hb:fn.body.isSome=true)(r:o.op=.call ⟨.value (.func f),j,ts⟩)
  (hw:aH ops k o=some true) {dst:Nat} (t:o.dst=some dst) (hn:Nat.blt dst n=true) (hv:cZ (aW C k) j.toList=some args) (hp:own[p]?=some B) (I:∀g,jG own p g=some (up g))
  (spec:Spec C f args F [B] λi v o=>∃g,o=[g]/\P i v g)
  (h:∀i v g,aw.le F i->P i v g->WT C n ops rest ((dst,v)::k) i (up g) (λk2 F2 own2 rs=>Q k2 F2 own2 (⟨F,own,i,up g,[]⟩::rs))) :
  WT C n ops (o::rest) k F own Q:=by refine WT.step (l:=[]) (by rw[r];rfl) λe h' hk hs=>?_;obtain⟨v,h1,F1,ad,⟨m,hd⟩,hF,J,g,rfl,U⟩:=spec (own.eraseIdx p) h' (hs.perm (cw hp));have e1:=cA _ _ _ _ (I g);refine⟨v,h1,F1,up g,⟨m,λN hN=>?_⟩,hF,?_,by rw[t,aA hn];exact h F1 v g hF U⟩;{unfold dj;rw[eJ hk hw];have:aQ C (aW C k) h' o.op=some (.call f args):=by{rw[r];simp only[aQ,aW,hv,kO,hf,hb,xf];simp};simp only[dY hk.eval this,hd N hN]};{rw[<-e1];exact J.perm (ff g hp).symm}
theorem WT.Hv(hT:aP C T=true){a b:Option Addr}{m c c2 by_:Nat}{t e t2 e2 J:Nat}{r r2:Row}{z:Value}{P U:Operand}{dst:Nat}
  (j:o.op=.call ⟨.builtin .append,⟨[U,P]⟩,⟨[t,t2]⟩⟩) (hw:aH ops k o=some true) (p:o.dst=some dst) (hn:Nat.blt dst n=true)
  (hs:aW C k U=some (.slice a m c)) (hx:aW C k P=some (.slice b 0 c2)) (hr:rowOf T t=some r) (hd:r.d=.slice e) (aa:dW T e=some J) (hz:gq T e=some z) (ab:kz T e=some by_)
  (ac:rowOf T t2=some r2) (ad:r2.d=.slice e2) (f:∀h,St F own h->eg h J 0 (.slice b 0 c2)=some []) (g:0<J/\0<by_) (i:m*by_<=140737488355328)
  (h:WT C n ops rest ((dst,.slice a m c)::k) F own (λk2 F2 own2 rs=>Q k2 F2 own2 (⟨F,own,F,own,[]⟩::rs))):WT C n ops (o::rest) k F own Q:=by refine WT.step (l:=[]) (by rw[j];rfl) λe0 h0 hk I=>⟨.slice a m c,h0,F,own,⟨0,λN _=>?_⟩,aw.le.refl F,I,by rw[p,aA hn];exact h⟩;refine gj hk hw ?_ _;rw[j];have hv:cZ (aW C k) [U,P]=some [.slice a m c,.slice b 0 c2]:=by{simp[cZ,hs,hx]};have h1:Nat.blt 0 J=true:=RZ g.1;have h2:Nat.blt 0 by_=true:=RZ g.2;have h3:Nat.ble ((m+0)*by_) 140737488355328=true:=RZ i;simp only[aQ,hv,bD,dP,bz hT hr hd,bI hT aa,cT hT hz,e9 hT ab,fV,List.head?_cons,bz hT ac ad,cS,gP,f h0 I,Si,h1,h2,h3];simp
end
end Go.Abs
/-
 Vectors: slices of one's own that keep their length,whose elements are read and written.
-/
set_option linter.unusedVariables false
namespace Go.Abs
open Go
structure er{α:Type}(R:Ty α)(F:aw)(a:Option Addr)(n c:Nat)(B:List (Nat×aC))(xs:List α):Prop where
 len:n=xs.length
 cap:c=0\/c=R.size
 zero:c=0->n=0
 nil:a=none->n=0/\c=0
 spot:∀p,a=some p->p.spot=none
 el:xs=[]\/∃i cs,a=some ⟨i,0,none⟩/\B=[(i,.cells false cs)]/\aF R F cs xs/\0<R.size
section
variable {α:Type}{R:Ty α}{F G:aw}{a:Option Addr}{n c:Nat}{B:List (Nat×aC)}{xs:List α}
theorem er.mono(h:er R F a n c B xs)(f:aw.le F G):er R G a n c B xs:=
 ⟨h.len,h.cap,h.zero,h.nil,h.spot,h.el.imp id λ⟨i,cs,g,j,l,o⟩=>⟨i,cs,g,j,l.mono f,o⟩⟩
theorem cu.vec(h:cu R F a n c B xs):er R F a n c B xs:=by have f:=h.len;rcases h.at_ with ⟨rfl,rfl,rfl,rfl⟩ | ⟨i,cs,rfl,rfl,rfl,j,l⟩;{exact⟨f,.inl rfl,λ_=>f,λ_=>⟨f,rfl⟩,λp g=>(by cases g),.inl rfl⟩};{exact⟨f,.inr rfl,λh=>(by omega),λh=>(by cases h),λp g=>(by cases g;rfl),.inr ⟨i,cs,rfl,rfl,j,l⟩⟩}
theorem er.arr(h:er R F a n c B xs)(g:aw.le F G)(o:∀i b,(i,b)∈B->G i=some b):a7 R G a n c xs:=by (refine⟨h.len,h.cap,h.zero,h.nil,h.spot,λj x f=>?_⟩;rcases h.el with rfl | ⟨i,cs,rfl,rfl,p,C⟩);{simp at f};{obtain⟨l,r,t⟩:=(p.mono g).at j x f;exact⟨i,0,false,cs,l,rfl,o i _ (R2 ..),by rw[yo];exact r,t⟩}
theorem er.at_(h:er R F a n c B xs){j:Nat}{x:α}(f:xs[j]?=some x):∃i cs,a=some ⟨i,0,none⟩/\B=[(i,.cells false cs)]/\aF R F cs xs/\0<R.size:=by rcases h.el with rfl | h;{simp at f};{exact h}
theorem er.Rg(h:er R F a n c B xs)(f:xs≠[]):cu R F a n c B xs:=by rcases h.el with g | ⟨i,cs,j,l,o,p⟩;{exact absurd g f};{refine⟨h.len,.inr ⟨i,cs,j,?_,l,o,p⟩⟩;rcases h.cap with h5 | h5;{have:=h.zero h5;rw[h.len] at this;exact absurd (D1 this) f};{exact h5}}
theorem aF.set{x y:α}{l:List Value}(p:R.rel F l y):∀{xs:List α} {cs:List Value} {j:Nat},aF R F cs xs->xs[j]?=some x->aF R F (bp cs (j*R.size) l) (xs.set j y)
 | [],cs,j,h,i=>by simp at i
 | z::xs,cs,0,h,i=>by{cases h with|cons o r=>{rename_i f g;have e:bp (f++g) (0*R.size) l=l++g:=by{unfold bp;rw[UG,T3,Uf,yo,R.len _ _ _ p,<-R.len _ _ _ o,List.drop_left]};rw[e];exact .cons p r}}
 | z::xs,cs,j+1,h,i=>by{cases h with|cons o r=>{rename_i f g;have C:=aF.set p (j:=j) r (by simpa using i);have e:bp (f++g) ((j+1)*R.size) l=f++bp g (j*R.size) l:=by{have t:=R.len _ _ _ o;unfold bp;rw[show (j+1)*R.size=f.length+j*R.size by rw[t,Sq];omega];rw[List.take_append,pf (show f.length<=f.length+j*R.size by omega),show f.length+j*R.size-f.length=j*R.size by omega, show f.length+j*R.size+l.length=f.length+(j*R.size+l.length) by omega,List.drop_append,Se (show f.length<=f.length+(j*R.size+l.length) by omega), show f.length+(j*R.size+l.length)-f.length=j*R.size+l.length by omega];simp};rw[e];exact .cons o C}}
theorem er.set(h:er R F a n c B xs){i:Nat}{cs:List Value}{j:Nat}{x y:α}{l:List Value}(p:B=[(i,.cells false cs)])(o:xs[j]?=some x)(r:R.rel F l y) :
  er R F a n c [(i,.cells false (bp cs (j*R.size) l))] (xs.set j y):=by obtain⟨P,t,C,f,I,J⟩:=h.at_ o;rw[p] at f;injection f with f _;injection f with f g;injection g with _ g;subst f;subst g;exact⟨by rw[h.len];simp,h.cap,h.zero,h.nil,h.spot,.inr ⟨i,_,C,rfl,I.set r o,J⟩⟩
theorem uW{C:Ctx}{T:RT}(hT:aP C T=true){t off m:Nat}{r:Row}{cs l:List Value}(f:rowOf T t=some r)(g:r.d.agg=true)(hm:r.size=m)(i:bE cs off m=some l):fL C cs t off=some (.agg ⟨l⟩):=by obtain⟨_,j,_,_,d,o,p⟩:=dD hT f;unfold fL;rw[o];simp only[uK p,g,xf,j,hm,i];rfl
theorem AA{cs l:List Value}{off:Nat}{v:Value}(f:bE cs off 1=some l)(i:l=[v]):cs[off]?=some v:=by subst i;unfold bE at f;cases e:(((cs.drop off).take 1).length==1) with|false=>{simp only[e,zy] at f;cases f}|true=>{simp only[e,xf] at f;have h:=mm f;have:(cs.drop off)[0]?=some v:=by{cases g:cs.drop off with|nil=>{rw[g] at h;simp at h}|cons x xs=>{rw[g] at h;simp at h;simp[h]}};simpa using this}
end
section
variable {C:Ctx}{T:RT}{n:Nat}{k:bY}{F:aw}{own:bH}{ops rest:List Oper}{o:Oper}{Q:bY->aw->bH->List Rec->Prop}{α:Type}{R:Ty α}
theorem WT.bJ(hT:aP C T=true){t e:Nat}{r:Row}{p io:Operand}{a:Option Addr}{m c:Nat}{B:List (Nat×aC)}{xs:List α}{J:IntKind}{j:Nat}(I:er R F a m c B xs)(g:o.op=.indexAddr t p io)(hw:aH ops k o=some true){dst:Nat}(f:o.dst=some dst)(P:Nat.blt dst n=true)
  (U:aW C k p=some (.slice a m c)) (hi:aW C k io=some (.int J (j:Nat))) (hr:rowOf T t=some r) (hd:r.d=.slice e) (hs:dW T e=some R.size) (hj:j<m)
  (h:∀b,a=some ⟨b,0,none⟩->WT C n ops rest ((dst,.pointer (some ⟨b,j*R.size,none⟩))::k) F own (λk2 F2 own2 rs=>Q k2 F2 own2 (⟨F,own,F,own,[]⟩::rs))):WT C n ops (o::rest) k F own Q:=by have hl:=I.len;obtain⟨x,l⟩:∃x,xs[j]?=some x:=⟨_,Sn (by omega)⟩;obtain⟨i,cs,rfl,rfl,h3,h4⟩:=I.at_ l;refine WT.cz hT g hw f P U hi hr hd hs hj ?_;rw[yo];exact h i rfl
theorem WT.cQ(hT:aP C T=true)(p:Nat){t:TypeId}{P:Operand}{a:Option Addr}{m c j b:Nat}{B:List (Nat×aC)}{xs:List α}{x:α}{r:Row}(hv:er R F a m c B xs)(ha:a=some ⟨b,0,none⟩)(U:xs[j]?=some x)(I:o.op=.load t P)(hw:aH ops k o=some true){dst:Nat}(g:o.dst=some dst)(hn:Nat.blt dst n=true)
  (J:aW C k P=some (.pointer (some ⟨b,j*R.size,none⟩))) (hp:own[p]?=some B) (hr:rowOf T t=some r) (hd:r.d.agg=true) (hs:r.size=R.size)
  (h:∀l,R.rel F l x->WT C n ops rest ((dst,.agg ⟨l⟩)::k) F own (λk2 F2 own2 rs=>Q k2 F2 own2 (⟨F,own,F,own,[b]⟩::rs))):WT C n ops (o::rest) k F own Q:=by obtain⟨i,cs,f,rfl,h3,h4⟩:=hv.at_ U;rw[ha] at f;injection f with f;injection f with f;subst f;obtain⟨l,h5,h6⟩:=h3.at j x U;exact WT.s4 p I hw J hp (R2 ..) (uW hT hr hd hs h5) (by rw[g,aA hn];exact h l h6)
theorem WT.rF(hT:aP C T=true)(p:Nat){t:TypeId}{ao x:Operand}{a:Option Addr}{m c j b:Nat}{B:List (Nat×aC)}{db:List (Nat×aC)->bH}{xs:List α}{z y:α}{v:Value}(hv:er R F a m c B xs)(ha:a=some ⟨b,0,none⟩)(I:xs[j]?=some z)(J:o.op=.store t ao x)(hw:aH ops k o=some true)(hd:o.dst=none)
  (P:aW C k ao=some (.pointer (some ⟨b,j*R.size,none⟩))) (hx:aW C k x=some v) (U:R.rel F v.cells.toList y) (hp:own[p]?=some B) (l:∀g,jG own p g=some (db g)) (hm:dW T t=some R.size)
  (h:∀g,er R F a m c g (xs.set j y)->WT C n ops rest k F (db g) (λk2 F2 own2 rs=>Q k2 F2 own2 (⟨F,own,F,db g,[b]⟩::rs))) :
  WT C n ops (o::rest) k F own Q:=by obtain⟨i,cs,h1,h2,h3,h4⟩:=hv.at_ I;have f:=h1;rw[ha] at f;injection f with f;injection f with f;subst f;have r:=hv.set h2 I U;subst h2;have aa:=(No.1 I).1;have ab:=h3.len;have hmul:j*R.size+R.size<=cs.length:=by{rw[ab,<-UZ];exact Sf _ aa};refine WT.store (C:=C) (n:=n) (k:=k) (F:=F) (Q:=Q) (rest:=rest) (ops:=ops) p 0 J hw P hx hp rfl (bI hT hm) (R.len _ _ _ U) (R.one _ _ _ U) hmul ?_;rw[hd];have e:=cA _ _ _ _ (l [(b,.cells false (bp cs (j*R.size) v.cells.toList))]);simp only[TG];rw[e];exact h _ r
end
end Go.Abs
/-
 Slices compared with nil,appended to an empty literal,copied into own blocks;numbers of 64 bits without sign.
-/
set_option linter.unusedVariables false
namespace Go.Abs
open Go
section
variable {C:Ctx}{T:RT}{n:Nat}{k:bY}{F:aw}{own:bH}{ops rest:List Oper}{o:Oper}{Q:bY->aw->bH->List Rec->Prop}{α:Type}{R:Ty α}
theorem WT.oM(hT:aP C T=true){t ty:TypeId}{i j:Operand}{a:Option Addr}{m c e:Nat}{r:Row}(f:o.op=.binOp .eql t i j ty)(hw:aH ops k o=some true){dst:Nat}(g:o.dst=some dst)(I:Nat.blt dst n=true)
  (l:aW C k i=some (.slice a m c)) (p:aW C k j=some (.slice none 0 0)) (J:rowOf T t=some r) (P:r.d=.slice e)
  (h:WT C n ops rest ((dst,.bool a.isNone)::k) F own (λk2 U own2 rs=>Q k2 U own2 (⟨F,own,F,own,[]⟩::rs))):WT C n ops (o::rest) k F own Q:=by refine WT.still hw (by rw[f];simp only[bg,l,p];rfl) (λh0 _=>?_) (by rw[g,aA I];exact h);rw[f];have hu:=bz hT J P;cases a<;>simp only[aQ,l,p,jL,iT,xf,equalA,hu]<;>rfl
theorem iB(hT:aP C T=true){t e:Nat}{r:Row}(q:rowOf T t=some r)(g:r.d=.pointer e):C.g9 t=some (.pointer e):=by (obtain⟨_,_,_,_,d,i,f⟩:=dD hT q;rw[g] at f;cases d<;>simp only[j5] at f<;>try (exact absurd f (by decide)));rw[i,R6 f]
theorem WT.BT(hT:aP C T=true){p0:Addr}{d by_:Nat}{ys:List α}{P:List Value}{t e:Nat}{ts:List TypeId}{r:Row}{z x:Value}{xo so:Operand}
  (ap:p0.spot=none) (U:o.op=.call ⟨.builtin .append,⟨[so,xo]⟩,⟨t::ts⟩⟩) (hw:aH ops k o=some true) {dst:Nat} (j:o.dst=some dst) (hn:Nat.blt dst n=true)
  (hs:aW C k so=some (.slice (some p0) 0 0)) (hx:aW C k xo=some x) (hr:rowOf T t=some r) (hd:r.d=.slice e) (ac:dW T e=some R.size) (hz:gq T e=some z) (ad:kz T e=some by_)
  (I:∀h,St F own h->fV C h e R.size ts.head? x=some (d,P)) (aa:aF R F P ys) (hlen:d=ys.length) (f:0<R.size/\0<by_) (ab:d*by_<=140737488355328)
  (h:∀a' c' B',er R F a' d c' B' ys->(ys=[]->a'=some p0)->WT C n ops rest ((dst,(.slice a' d c'))::k) F (B'::own) (λk2 F2 own2 rs=>Q k2 F2 own2 (⟨F,own,F,B'::own,[]⟩::rs))) :
  WT C n ops (o::rest) k F own Q:=by obtain⟨b0,J,ax⟩:=p0;have:ax=none:=ap;subst this;have hl:bg (aW C k) o.op=some []:=by{rw[U];rfl};have hv:cZ (aW C k) [so,xo]=some [.slice (some ⟨b0,J,none⟩) 0 0,x]:=by{simp[cZ,hs,hx]};have g:(!(P.length==d*R.size&&P.all one&&Nat.blt 0 R.size&&Nat.blt 0 by_&&Nat.ble ((0+d)*by_) 140737488355328))=false:=by{have h1:(P.length==d*R.size)=true:=by{rw[aa.len,hlen];simp};have h2:Nat.blt 0 R.size=true:=RZ f.1;have h3:Nat.blt 0 by_=true:=RZ f.2;have h4:Nat.ble ((0+d)*by_) 140737488355328=true:=RZ (by rw[yo];exact ab);rw[h1,h2,h3,h4,aa.one];rfl};by_cases ae:d=0;{subst ae;have az:ys=[]:=D1 hlen.symm;subst az;refine WT.step (l:=[]) hl λe0 h0 hk af=>⟨.slice (some ⟨b0,J,none⟩) 0 0,h0,F,[]::own,⟨0,λN _=>?_⟩,aw.le.refl F,af.le (ah.flat (ri _)),by{rw[j,aA hn];exact h _ _ [] ⟨rfl,.inl rfl,λ_=>rfl,λh=>(by cases h),λp hp=>(by cases hp;rfl),.inl rfl⟩ (λ_=>rfl)}⟩;refine gj hk hw ?_ _;rw[U];simp only[aQ,hv,bD,dP,bz hT hr hd,bI hT ac,cT hT hz,e9 hT ad,I h0 af,g,zy];simp};{have a1:(d==0)=false:=by{simpa using ae};refine WT.new (mk:=λi=>.slice (some ⟨i,0,none⟩) d R.size) (b:=.cells false P) hw hl (λh0 s0=>?_) (λi hi=>?_);{rw[U];simp only[aQ,hv,bD,dP,bz hT hr hd,bI hT ac,cT hT hz,e9 hT ad,I h0 s0,g,a1,zy];simp};{rw[j,aA hn];refine h _ _ _ ⟨hlen,.inr rfl,λh=>?_,λh=>(by cases h),λp hp=>(by cases hp;rfl),.inr ⟨i,P,rfl,rfl,aa,f.1⟩⟩ (λh=>?_);{have:=f.1;omega};{subst h;simp at hlen;omega}}}
theorem JO{F:aw}{a:Option Addr}{n c:Nat}{xs:List α}(P:a7 R F a n c xs)(hn:0<n) :
  ∃b off ro cs i,a=some ⟨b,off,none⟩/\F b=some (.cells ro cs)/\bE cs off (n*R.size)=some i/\aF R F i xs:=by have f:∀{cs:List Value} {off n:Nat} {l:List Value},bE cs off n=some l->l=(cs.drop off).take n/\l.length=n:=by{intro cs off n l h;unfold bE at h;cases e:(((cs.drop off).take n).length==n) with|false=>{simp only[e,zy] at h;cases h}|true=>{simp only[e,xf] at h;obtain rfl:=mm h;exact⟨rfl,eq_of_beq e⟩}};have g:∀{cs:List Value} {off n m:Nat} {p r:List Value},bE cs off n=some p->bE cs (off+n) m=some r->bE cs off (n+m)=some (p++r):=by{intro cs off n m p r I J;obtain⟨e1,k1⟩:=f I;obtain⟨e2,k2⟩:=f J;have e:(cs.drop off).take (n+m)=p++r:=by{rw[List.take_add,Up,<-e1,<-e2]};unfold bE;simp only[e];have:((p++r).length==n+m)=true:=by{simp[k1,k2]};rw[this];rfl};have hl:=P.len;obtain⟨x0,h0⟩:∃x,xs[0]?=some x:=⟨_,Sn (by omega)⟩;obtain⟨b,off,ro,cs,l,I,J,h3,h4⟩:=P.el 0 x0 h0;have main:∀k,k<=xs.length->0<k->∃i,bE cs off (k*R.size)=some i/\aF R F i (xs.take k):=by{intro k;induction k with|zero=>{intro _ h;omega}|succ k ih=>{intro hk _;obtain⟨y,hy⟩:∃x,xs[k]?=some x:=⟨_,Sn (by omega)⟩;obtain⟨b',ad,az,a0,l',j,t,g3,g4⟩:=P.el k y hy;rw[I] at j;injection j with j;injection j with j U;subst j;subst U;rw[J] at t;injection t with t;injection t with t aa;subst aa;have ht:xs.take (k+1)=xs.take k++[y]:=by{rw[yf,hy];rfl};rw[ht];by_cases ab:k=0;{subst ab;exact⟨l',by simpa using g3,by simpa using aF.single g4⟩};{obtain⟨i,d1,d2⟩:=ih (by omega) (by omega);exact⟨i++l',by rw[Sq,S2];exact g d1 g3,d2.append (aF.single g4)⟩}}};obtain⟨i,d1,d2⟩:=main n (by omega) hn;rw[hl,SS] at d2;exact⟨b,off,ro,cs,i,I,J,d1,d2⟩
theorem mO(hT:aP C T=true){a:Option Addr}{m c t l:Nat}{r:Row}{xs:List α}(g:a7 R F a m c xs)(i:rowOf T t=some r)(j:r.d=.slice l)(e:TypeId) :
  ∃f,(∀(own:bH) h,St F own h->fV C h e R.size (some t) (.slice a m c)=some (m,f))/\aF R F f xs:=by by_cases hm:m=0;{subst hm;have:xs=[]:=D1 g.len.symm;subst this;refine⟨[],λown h s=>?_,.nil⟩;cases a with|none=>{simp only[fV,bz hT i j,cS,gP,eg];rfl}|some p=>{obtain⟨b,off,I⟩:=p;have:I=none:=g.spot _ rfl;subst this;simp only[fV,bz hT i j,cS,gP,eg];rfl}};{obtain⟨b,off,ro,cs,f,rfl,J,P,U⟩:=JO g (by omega);refine⟨f,λown h s=>?_,U⟩;have hb:=s.z4 _ _ J;simp only[fV,bz hT i j,cS,gP,eg,eW,hb,P,show (m==0)=false by simpa using hm];rfl}
end
end Go.Abs
/-
 Numbers of 64 bits without sign;copies into own blocks.
-/
set_option linter.unusedVariables false
namespace Go.Abs
open Go
theorem jr{x:Int}(h:0<=x/\x<18446744073709551616):IntKind.u64.wrap x=x:=by unfold IntKind.wrap;have hs:IntKind.u64.signed=false:=rfl;have f:IntKind.u64.bits=64:=rfl;have:(2:Int) ^ 64=18446744073709551616:=rfl;simp only[hs,f,Uq,this];exact Ul h.1 h.2
theorem Fg(x:Nat):IntKind.u64.wrap (x:Int)=((x % 18446744073709551616:Nat):Int):=by unfold IntKind.wrap;have hs:IntKind.u64.signed=false:=rfl;have f:IntKind.u64.bits=64:=rfl;have:(2:Int) ^ 64=18446744073709551616:=rfl;simp only[hs,f,Uq,this];simp
theorem My{x:Nat}(h:x<18446744073709551616):(BitVec.ofInt 64 (x:Int)).toNat=x:=by rw[BitVec.toNat_ofInt];omega
section
variable {C:Ctx}{T:RT}{n:Nat}{k:bY}{F:aw}{own:bH}{ops rest:List Oper}{o:Oper}{Q:bY->aw->bH->List Rec->Prop}{α:Type}{R:Ty α}
theorem WT.GG{op:BinOp}{t ty:TypeId}{l p:Operand}{i:IntKind}{x y:Int}{v:Value}(j:o.op=.binOp op t l p ty)(hw:aH ops k o=some true){dst:Nat}(g:o.dst=some dst)(r:Nat.blt dst n=true)(I:aW C k l=some (.int i x))(J:aW C k p=some (.int i y))
  (f:op≠.shl/\op≠.shr) (P:dO op i x y=some v)
  (h:WT C n ops rest ((dst,v)::k) F own (λk2 U own2 rs=>Q k2 U own2 (⟨F,own,F,own,[]⟩::rs))):WT C n ops (o::rest) k F own Q:=by refine WT.bin j hw I J ?_ f (by rw[g,aA r];exact h);cases op<;>first | exact absurd rfl f.1 | exact absurd rfl f.2 | (simp only[jL,SN];exact P)
theorem WT.Ml{op:BinOp}{t ty:TypeId}{r I:Operand}{J j:IntKind}{x y:Int}{v:Value}(f:o.op=.binOp op t r I ty)(hw:aH ops k o=some true){dst:Nat}(g:o.dst=some dst)(hn:Nat.blt dst n=true)(P:aW C k r=some (.int J x))(U:aW C k I=some (.int j y))
  (p:op=.shl\/op=.shr) (hr:jO op J x y=some v)
  (h:WT C n ops rest ((dst,v)::k) F own (λk2 F2 own2 rs=>Q k2 F2 own2 (⟨F,own,F,own,[]⟩::rs))):WT C n ops (o::rest) k F own Q:=by have i:∀v,((dst,v)::k:bY)=eS n k o.dst v:=λv=>by{rw[g,aA hn]};rw[i] at h;refine WT.still (l:=[]) hw (by rw[f];simp only[bg,P,U];rfl) (λh0 _=>?_) h;rw[f];rcases p with rfl | rfl<;>simp only[aQ,P,U,jL,hr]<;>rfl
theorem PU{x y:Nat}(f:x<18446744073709551616)(g:y<18446744073709551616):dO .and .u64 x y=some (.int .u64 ((x &&& y:Nat):Int)):=by have i:IntKind.u64.bits=64:=rfl;have j:x &&& y<18446744073709551616:=TH Nat.and_le_left f;show some (Value.int .u64 (IntKind.u64.wrap ((BitVec.ofInt IntKind.u64.bits (x:Int) &&& BitVec.ofInt IntKind.u64.bits (y:Int)).toNat:Int)))=_;rw[i,BitVec.toNat_and,My f,My g,jr (by omega)]
theorem Kz{x y:Nat}(g:x<18446744073709551616)(i:y<18446744073709551616):dO .xor .u64 x y=some (.int .u64 ((x ^^^ y:Nat):Int)):=by have j:IntKind.u64.bits=64:=rfl;have f:x ^^^ y<2 ^ 64:=Nat.xor_lt_two_pow g i;have l:(2:Nat) ^ 64=18446744073709551616:=rfl;rw[l] at f;show some (Value.int .u64 (IntKind.u64.wrap ((BitVec.ofInt IntKind.u64.bits (x:Int) ^^^ BitVec.ofInt IntKind.u64.bits (y:Int)).toNat:Int)))=_;rw[j,BitVec.toNat_xor,My g,My i,jr (by omega)]
theorem Pr{x y:Nat}(f:x<18446744073709551616)(h:y<=x):dO .sub .u64 x y=some (.int .u64 ((x-y:Nat):Int)):=by simp only[dO];rw[jr (by omega)];congr 2;omega
theorem yB{x y:Nat}(f:y<=64):jO .shr .u64 x y=some (.int .u64 ((x / 2 ^ y:Nat):Int)):=by have g:IntKind.u64.bits=64:=rfl;unfold jO;rw[mb (by omega)];simp only[g,TN,SP f];congr 2;rw[Int.natCast_ediv,Int.natCast_pow];exact Int.fdiv_eq_ediv_of_nonneg _ (Int.pow_nonneg (by decide))
theorem Lm{x y:Nat}(f:y<=64):jO .shl .u64 x y=some (.int .u64 (((x*2 ^ y) % 18446744073709551616:Nat):Int)):=by have g:IntKind.u64.bits=64:=rfl;unfold jO;rw[mb (by omega)];simp only[g,TN,SP f];rw[show (x:Int)*2 ^ y=((x*2 ^ y:Nat):Int) by simp,Fg]
end
end Go.Abs
namespace Go.Abs
open Go
theorem vq{C:Ctx}{T:RT}(hT:aP C T=true){t e s:Nat}{r:Row}(i:rowOf T t=some r)(j:r.d=.slice e)(hs:dW T e=some s){b off len c lo hi:Nat}{vlo vhi:Option Value}(l:dc vlo 0=some lo)(o:dc vhi len=some hi)(f:lo<=hi)(g:hi<=len)(p:c=0\/c=s)(h:au) :
  gO C h t (.slice (some ⟨b,off,none⟩) len c) vlo vhi none=some (.slice (some ⟨b,off+lo*s,none⟩) (hi-lo) c):=by have I:Nat.ble lo hi=true:=RZ f;have J:Nat.ble hi len=true:=RZ g;have P:(c==0||c==s)=true:=by{rcases p with rfl | rfl<;>simp};simp only[gO,bz hT i j,bI hT hs,l,o,I,J,P,Tk,xf]
end Go.Abs
namespace Go.Abs
open Go
def Q8{S:Type}(f:S->bY)(k:bY)(i:S->bH)(P:S->aw->Prop)(A:Ex->bY->aw->bH->Prop):Ex->bY->aw->bH->Prop
 | .normal,k',g,be=>∃s,dm (f s++k) k'/\ah (i s) be/\P s g
 | x,k',g,be=>A x k' g be
theorem AW.jn{C:Ctx}{n:Nat}{k:bY}{F:aw}{own:bH}{A:Ex->bY->aw->bH->Prop}{S:Type}(f:S->bY)(j:S->bH)(P:S->aw->Prop){a b:Code}(l:AW C n a k F own (Q8 f k j P A))
  (o:∀s g,aw.le F g->P s g->AW C n b (f s++k) g (j s) A):AW C n (.seq a b) k F own A:=
 AW.seq (AW.mono l λx k' g be p i=>by{cases x with|normal=>{obtain⟨s,r,t,I⟩:=i;exact AW.weaken r (AW.le t (o s g p I))}|exit id=>{exact i}|ret=>{exact i}})
theorem AW.Jc{C:Ctx}{n:Nat}{k:bY}{F:aw}{own:bH}{A:Ex->bY->aw->bH->Prop}{S:Type}(g:S->bY)(j:S->bH)(P:S->aw->Prop){a b:Code}(l:AW C n a k F own (Q8 g k j P A))
  (o:∀s f,aw.le F f->P s f->AW C n b (g s++k) f (j s) A):AW C n a k F own (vW (λk' f be=>AW C n b k' f be A) A):=
 AW.mono l λx k' f be p i=>by cases x with|normal=>{obtain⟨s,r,t,I⟩:=i;exact AW.weaken r (AW.le t (o s f p I))}|exit id=>{exact i}|ret=>{exact i}
end Go.Abs
/-
 Clearing a part of an own block;cells split in two.
-/
set_option linter.unusedVariables false
namespace Go.Abs
open Go
section
variable {α:Type}{R:Ty α}{F:aw}
theorem aF.split:∀{xs ys:List α} {cs:List Value},aF R F cs (xs++ys)->∃f c2,cs=f++c2/\aF R F f xs/\aF R F c2 ys
 | [],ys,cs,h=>⟨[],cs,rfl,.nil,h⟩
 | x::xs,ys,cs,h=>by{cases h with|cons g i=>{rename_i l j;obtain⟨f,c2,rfl,o,p⟩:=aF.split (xs:=xs) i;exact⟨l++f,c2,by simp,.cons g o,p⟩}}
theorem aF.rows{l:List Value}{x:α}(h:R.rel F l x):∀n,aF R F (dy l n) (List.replicate n x)
 | 0=>.nil
 | n+1=>.cons h (aF.rows h n)
theorem aF.QL{l:List Value}{x:α}(h:R.rel F l x){xs:List α}{cs:List Value}(g:aF R F cs xs){i n:Nat}(hi:i+n=xs.length) :
  aF R F (bp cs (i*R.size) (dy l n)) (xs.take i++List.replicate n x):=by rw[<-S0 i xs] at g;obtain⟨f,c2,rfl,j,p⟩:=g.split;have r:=j.len;have t:=p.len;have o:=(aF.rows (n:=n) h).len;rw[SE] at o;have C:f.length=i*R.size:=by{rw[r,R5,SP (by omega)]};have e:bp (f++c2) (i*R.size) (dy l n)=f++dy l n:=by{unfold bp;rw[<-C,List.take_left,Se];{simp};{rw[q0,t,o,Uv];have:xs.length-i=n:=by{omega};rw[this];omega}};rw[e];exact j.append (aF.rows h n)
end
section
variable {C:Ctx}{T:RT}{n:Nat}{k:bY}{F:aw}{own:bH}{ops rest:List Oper}{o:Oper}{Q:bY->aw->bH->List Rec->Prop}{α:Type}{R:Ty α}
theorem WT.OH(hT:aP C T=true)(p:Nat){t e:Nat}{ts:List TypeId}{r:Row}{xo:Operand}{a:Option Addr}{b m c c2 i l:Nat}{B:List (Nat×aC)}{db:List (Nat×aC)->bH}{xs:List α}{x0:α}{z:Value}(I:er R F a m c B xs)(ha:a=some ⟨b,0,none⟩)(U:o.op=.call ⟨.builtin .clear,⟨[xo]⟩,⟨t::ts⟩⟩)(hw:aH ops k o=some true)(aa:o.dst=none)
  (hx:aW C k xo=some (.slice (some ⟨b,0+i*R.size,none⟩) l c2)) (hr:rowOf T t=some r) (af:r.d=.slice e) (hz:gq T e=some z) (g:R.rel F z.cells.toList x0) (hl:i+l=m) (ar:0<l) (hp:own[p]?=some B) (ab:∀J,jG own p J=some (db J))
  (h:∀J,er R F a m c J (xs.take i++List.replicate l x0)->WT C n ops rest k F (db J) (λk2 F2 own2 rs=>Q k2 F2 own2 (⟨F,own,F,db J,[]⟩::rs))):WT C n ops (o::rest) k F own Q:=by have hlen:=I.len;obtain⟨x,ag⟩:∃x,xs[0]?=some x:=⟨_,Sn (by omega)⟩;obtain⟨i',cs,P,rfl,h3,h4⟩:=I.at_ ag;rw[ha] at P;injection P with P;injection P with P;subst P;have al:bg (aW C k) o.op=some []:=by{rw[U];rfl};have an:cZ (aW C k) [xo]=some [.slice (some ⟨b,0+i*R.size,none⟩) l c2]:=by{simp[cZ,hx]};have j:=h3.QL g (i:=i) (n:=l) (by omega);have ac:=(aF.rows (n:=l) g).len;rw[SE] at ac;have ao:=h3.len;have f:(0+i*R.size)+(dy z.cells.toList l).length<=cs.length:=by{rw[ac,ao,<-hlen,<-hl,Sq];omega};have e2:=cA _ _ _ _ (ab [(b,.cells false (bp cs (i*R.size) (dy z.cells.toList l)))]);refine WT.step (l:=[]) al λe0 h0 hk ad=>?_;have hb:=ad.has hp (R2 ..);refine⟨cl,h0.put b (some (.cells false (bp cs (i*R.size) (dy z.cells.toList l)))),F,db [(b,.cells false (bp cs (i*R.size) (dy z.cells.toList l)))],⟨0,λN _=>?_⟩,aw.le.refl F,?_,?_⟩;{refine gj hk hw ?_ _;rw[U];have h5:(dy z.cells.toList l).all one=true:=(aF.rows g l).one;have h6:Nat.ble (i*R.size+(dy z.cells.toList l).length) cs.length=true:=RZ (by rw[yo] at f;exact f);cases l with|zero=>{omega}|succ l=>{simp only[aQ,an,bD,kQ,bz hT hr af,cT hT hz,hb,yo,h5,h6,Tk,xf];rfl}};{have:=ad.put hp (q:=0) rfl (.cells false (bp cs (i*R.size) (dy z.cells.toList l)));simp only[TG] at this;rw[e2] at this;exact this};{rw[aa];exact h _ ⟨by simp;omega,I.cap,I.zero,I.nil,I.spot,.inr ⟨b,_,ha,rfl,j,h4⟩⟩}
end
end Go.Abs
/-
 Vectors inside a greater slot: read where they lie.
-/
set_option linter.unusedVariables false
namespace Go.Abs
open Go
section
variable {C:Ctx}{T:RT}{n:Nat}{k:bY}{F:aw}{own:bH}{ops rest:List Oper}{o:Oper}{Q:bY->aw->bH->List Rec->Prop}{α:Type}{R:Ty α}
end
theorem wY:∀(n:Nat) (l:List Nat),l.Nodup->(∀x∈l,x<n)->l.length<=n
 | 0,l,_,h=>by{cases l with|nil=>{simp}|cons x l=>{exact absurd (h x (R2 ..)) (SJ _)}}
 | n+1,l,f,h=>by{have g:=wY n (l.erase n) (f.erase n) (λx i=>by{have j:=h x (List.mem_of_mem_erase i);have o:x≠n:=by{rintro rfl;exact(List.Nodup.not_mem_erase f) i};omega});rw[List.length_erase] at g;split at g<;>omega}
end Go.Abs
/-
 Sums and differences of naturals.
-/
set_option linter.unusedVariables false
namespace Go.Abs
open Go
section
variable {C:Ctx}{n:Nat}{k:bY}{F:aw}{own:bH}{ops rest:List Oper}{o:Oper}{Q:bY->aw->bH->List Rec->Prop}
theorem WT.OI{d:Nat}{t ty:TypeId}{g i:Operand}{x:Nat}(f:o.op=.binOp .add t g i ty)(hw:aH ops k o=some true)(j:o.dst=some d)(l:Nat.blt d n=true)(p:aW C k g=some (.int .i64 (x:Nat)))(r:aW C k i=some (.int .i64 1))(J:x<=9223372036854775806)
  (h:WT C n ops rest ((d,.int .i64 ((x+1:Nat):Int))::k) F own (λk2 I own2 rs=>Q k2 I own2 (⟨F,own,F,own,[]⟩::rs))):WT C n ops (o::rest) k F own Q:=
 WT.OQ f hw j l p r (by omega) (by rw[Int.natCast_add] at h;exact h)
theorem WT.Ov{d:Nat}{t ty:TypeId}{g i:Operand}{x y:Nat}(f:o.op=.binOp .add t g i ty)(hw:aH ops k o=some true)(j:o.dst=some d)(l:Nat.blt d n=true)(p:aW C k g=some (.int .i64 (x:Nat)))(r:aW C k i=some (.int .i64 (y:Nat)))(J:x+y<=9223372036854775807)
  (h:WT C n ops rest ((d,.int .i64 ((x+y:Nat):Int))::k) F own (λk2 I own2 rs=>Q k2 I own2 (⟨F,own,F,own,[]⟩::rs))):WT C n ops (o::rest) k F own Q:=
 WT.OQ f hw j l p r (by omega) (by rw[Int.natCast_add] at h;exact h)
theorem WT.O0{d:Nat}{t ty:TypeId}{g i:Operand}{x:Nat}(f:o.op=.binOp .sub t g i ty)(hw:aH ops k o=some true)(j:o.dst=some d)(l:Nat.blt d n=true)(p:aW C k g=some (.int .i64 (x:Nat)))(r:aW C k i=some (.int .i64 1))(J:1<=x/\x<=9223372036854775807)
  (h:WT C n ops rest ((d,.int .i64 ((x-1:Nat):Int))::k) F own (λk2 I own2 rs=>Q k2 I own2 (⟨F,own,F,own,[]⟩::rs))):WT C n ops (o::rest) k F own Q:=
 WT.Lg f hw j l p r (by omega) (by rw[show ((x-1:Nat):Int)=(x:Int)-1 by omega] at h;exact h)
theorem WT.OD{d:Nat}{t ty:TypeId}{g i:Operand}{x y:Nat}(f:o.op=.binOp .sub t g i ty)(hw:aH ops k o=some true)(j:o.dst=some d)(l:Nat.blt d n=true)(p:aW C k g=some (.int .i64 (x:Nat)))(r:aW C k i=some (.int .i64 (y:Nat)))(J:y<=x/\x<=9223372036854775807)
  (h:WT C n ops rest ((d,.int .i64 ((x-y:Nat):Int))::k) F own (λk2 I own2 rs=>Q k2 I own2 (⟨F,own,F,own,[]⟩::rs))):WT C n ops (o::rest) k F own Q:=
 WT.Lg f hw j l p r (by omega) (by rw[show ((x-y:Nat):Int)=(x:Int)-(y:Int) by omega] at h;exact h)
theorem WT.OZ{d:Nat}{t ty:TypeId}{g i:Operand}{x:Nat}(f:o.op=.binOp .mul t g i ty)(hw:aH ops k o=some true)(j:o.dst=some d)(l:Nat.blt d n=true)(p:aW C k g=some (.int .i64 2))(r:aW C k i=some (.int .i64 (x:Nat)))(J:2*x<=9223372036854775807)
  (h:WT C n ops rest ((d,.int .i64 ((2*x:Nat):Int))::k) F own (λk2 I own2 rs=>Q k2 I own2 (⟨F,own,F,own,[]⟩::rs))):WT C n ops (o::rest) k F own Q:=
 WT.N8 f hw j l p r (by omega) (by rw[Ud] at h;exact h)
theorem WT.mulL(l:Nat){d:Nat}{t ty:TypeId}{g i:Operand}{x:Nat}(f:o.op=.binOp .mul t g i ty)(hw:aH ops k o=some true)(j:o.dst=some d)(p:Nat.blt d n=true)(r:aW C k g=some (.int .i64 (x:Nat)))(I:aW C k i=some (.int .i64 (l:Nat)))(P:x*l<=9223372036854775807)
  (h:WT C n ops rest ((d,.int .i64 ((x*l:Nat):Int))::k) F own (λk2 J own2 rs=>Q k2 J own2 (⟨F,own,F,own,[]⟩::rs))):WT C n ops (o::rest) k F own Q:=
 WT.N8 f hw j p r I (by rw[<-Ud];omega) (by rw[Ud] at h;exact h)
theorem WT.EH(l:Nat){d:Nat}{t ty:TypeId}{g i:Operand}{x:Nat}(f:o.op=.binOp .quo t g i ty)(hw:aH ops k o=some true)(p:o.dst=some d)(I:Nat.blt d n=true)(J:aW C k g=some (.int .i64 (x:Nat)))(P:aW C k i=some (.int .i64 (l:Nat)))(hl:0<l)(hb:x<=9223372036854775807)
  (h:WT C n ops rest ((d,.int .i64 ((x / l:Nat):Int))::k) F own (λk2 R own2 rs=>Q k2 R own2 (⟨F,own,F,own,[]⟩::rs))):WT C n ops (o::rest) k F own Q:=by have U:x / l<=x:=Ug _ _;have j:Int.tdiv (x:Int) (l:Int)=((x / l:Nat):Int):=by{rw[Int.tdiv_eq_ediv_of_nonneg (by omega),Int.natCast_ediv]};generalize x / l=q at U j h;refine WT.bin (r:=.int .i64 (q:Int)) f hw J P ?_ (by simp) (by rw[p,aA I];exact h);simp only[jL,SN,dO];rw[mb (by omega),j,wrap64 (by omega)]
end
end Go.Abs
/-
 A whole element that lies in a frozen block is read.
-/
set_option linter.unusedVariables false
namespace Go.Abs
open Go
section
variable {C:Ctx}{T:RT}{n:Nat}{k:bY}{F:aw}{own:bH}{ops rest:List Oper}{o:Oper}{Q:bY->aw->bH->List Rec->Prop}
theorem WT.L2(hT:aP C T=true){t:TypeId}{i:Operand}{b off m:Nat}{ro:Bool}{cs l:List Value}{r:Row}(j:F b=some (.cells ro cs))(p:bE cs off m=some l)(g:o.op=.load t i)(hw:aH ops k o=some true){dst:Nat}(f:o.dst=some dst)(I:Nat.blt dst n=true)
  (J:aW C k i=some (.pointer (some ⟨b,off,none⟩))) (P:rowOf T t=some r) (R:r.d.agg=true) (hm:r.size=m)
  (h:WT C n ops rest ((dst,.agg ⟨l⟩)::k) F own (λk2 U own2 rs=>Q k2 U own2 (⟨F,own,F,own,[b]⟩::rs))):WT C n ops (o::rest) k F own Q:=
 WT.wK g hw J j (uW hT P R hm p) (by rw[f,aA I];exact h)
end
end Go.Abs
/-
 A byte of a string that stands in the text.
-/
set_option linter.unusedVariables false
namespace Go.Abs
open Go
theorem OX{x:Int}(h:0<=x/\x<256):IntKind.u8.wrap x=x:=by unfold IntKind.wrap;have hs:IntKind.u8.signed=false:=rfl;have f:IntKind.u8.bits=8:=rfl;have:(2:Int) ^ 8=256:=rfl;simp only[hs,f,Uq,this];exact Ul h.1 h.2
section
variable {C:Ctx}{T:RT}{n:Nat}{k:bY}{F:aw}{own:bH}{ops rest:List Oper}{o:Oper}{Q:bY->aw->bH->List Rec->Prop}
theorem WT.KW(hT:aP C T=true){t:TypeId}{P io:Operand}{s:ByteArray}{j m:Nat}{R:IntKind}{r:Row}{f:Nat->Nat}(g:o.op=.index t P io)(hw:aH ops k o=some true){dst:Nat}(i:o.dst=some dst)(U:Nat.blt dst n=true)
  (hx:aW C k P=some (.string s)) (hi:aW C k io=some (.int R (j:Nat))) (hr:rowOf T t=some r) (hd:r.d=.string) (hj:j<m) (p:∀j,j<m->(s.data.toList[j]?).map UInt8.toNat=some (f j))
  (h:WT C n ops rest ((dst,.int .u8 (f j:Nat))::k) F own (λk2 F2 own2 rs=>Q k2 F2 own2 (⟨F,own,F,own,[]⟩::rs))):WT C n ops (o::rest) k F own Q:=by refine WT.still (l:=[]) hw (by rw[g];rfl) (λh0 _=>?_) (by rw[i,aA U];exact h);rw[g];have I:=p j hj;cases J:s.data.toList[j]? with|none=>{rw[J] at I;cases I}|some b=>{rw[J] at I;have h2:b.toNat=f j:=mm I;simp only[aQ,hx,hi,Cb,kN hT hr hd];rw[nw (TF j),TN,J];simp[h2]}
end
end Go.Abs
/-
 The lesser of two numbers;slices that lie at the beginning of a longer block of one's own.
-/
set_option linter.unusedVariables false
namespace Go.Abs
open Go
structure Nd{α:Type}(R:Ty α)(F:aw)(b m:Nat)(B:List (Nat×aC))(xs:List α):Prop where
 len:m=xs.length
 pos:0<R.size
 cf:∃cs cU,B=[(b,.cells false cs)]/\bE cs 0 (m*R.size)=some cU/\aF R F cU xs
section
variable {α:Type}{R:Ty α}{F G:aw}{b m:Nat}{B:List (Nat×aC)}{xs:List α}
theorem Ma{cs l:List Value}{off n:Nat}(h:bE cs off n=some l):l=(cs.drop off).take n/\l.length=n:=by unfold bE at h;cases e:(((cs.drop off).take n).length==n) with|false=>{simp only[e,zy] at h;cases h}|true=>{simp only[e,xf] at h;obtain rfl:=mm h;exact⟨rfl,eq_of_beq e⟩}
theorem og{cs l:List Value}{off n:Nat}(h:l=(cs.drop off).take n)(f:l.length=n):bE cs off n=some l:=by unfold bE;rw[<-h];show (bif l.length==n then some l else none)=some l;rw[f];simp
theorem Nd.mono(h:Nd R F b m B xs)(f:aw.le F G):Nd R G b m B xs:=by obtain⟨g,i,cs,cU,j,l,o⟩:=h;exact⟨g,i,cs,cU,j,l,o.mono f⟩
end
section
variable {C:Ctx}{T:RT}{n:Nat}{k:bY}{F:aw}{own:bH}{ops rest:List Oper}{o:Oper}{Q:bY->aw->bH->List Rec->Prop}{α:Type}{R:Ty α}
theorem WT.Po{ts:List TypeId}{t:TypeId}{i j:Operand}{x y:Nat}(f:o.op=.call ⟨.builtin .min,⟨[i,j]⟩,⟨t::ts⟩⟩)(hw:aH ops k o=some true){dst:Nat}(g:o.dst=some dst)(p:Nat.blt dst n=true)
  (r:aW C k i=some (.int .i64 (x:Nat))) (I:aW C k j=some (.int .i64 (y:Nat)))
  (h:WT C n ops rest ((dst,.int .i64 ((Nat.min x y:Nat):Int))::k) F own (λk2 J own2 rs=>Q k2 J own2 (⟨F,own,F,own,[]⟩::rs))):WT C n ops (o::rest) k F own Q:=by refine WT.still (l:=[]) hw (by rw[f];rfl) (λU _=>?_) (by rw[g,aA p];exact h);rw[f];have P:cZ (aW C k) [i,j]=some [.int .i64 (x:Nat),.int .i64 (y:Nat)]:=by{simp[cZ,r,I]};have e:(if (y:Int)<x then (y:Int) else x)=((Nat.min x y:Nat):Int):=by{have:Nat.min x y=min x y:=rfl;rw[this];split<;>omega};simp only[aQ,P,bD,e];rfl
end
end Go.Abs
/-
 Appending to a vector;calls of function values that are handed a slot.
-/
set_option linter.unusedVariables false
namespace Go.Abs
open Go
section
variable {C:Ctx}{T:RT}{n:Nat}{k:bY}{F:aw}{own:bH}{ops rest:List Oper}{o:Oper}{Q:bY->aw->bH->List Rec->Prop}{α:Type}{R:Ty α}
theorem WT.D3(hT:aP C T=true){p0:Addr}{d by_:Nat}{ys:List α}{P:List Value}{t e:Nat}{ts:List TypeId}{r:Row}{z x:Value}{xo so:Operand}
  (ap:p0.spot=none) (U:o.op=.call ⟨.builtin .append,⟨[so,xo]⟩,⟨t::ts⟩⟩) (hw:aH ops k o=some true) {dst:Nat} (j:o.dst=some dst) (hn:Nat.blt dst n=true)
  (hs:aW C k so=some (.slice (some p0) 0 0)) (hx:aW C k xo=some x) (hr:rowOf T t=some r) (hd:r.d=.slice e) (ac:dW T e=some R.size) (hz:gq T e=some z) (ad:kz T e=some by_)
  (I:∀h,St F own h->fV C h e R.size ts.head? x=some (d,P)) (aa:aF R F P ys) (hlen:d=ys.length) (f:0<R.size/\0<by_) (ab:d*by_<=140737488355328)
  (h:∀a' c' B',er R F a' d c' B' ys->(ys=[]->c'=0)->WT C n ops rest ((dst,(.slice a' d c'))::k) F (B'::own) (λk2 F2 own2 rs=>Q k2 F2 own2 (⟨F,own,F,B'::own,[]⟩::rs))) :
  WT C n ops (o::rest) k F own Q:=by obtain⟨b0,J,ax⟩:=p0;have:ax=none:=ap;subst this;have hl:bg (aW C k) o.op=some []:=by{rw[U];rfl};have hv:cZ (aW C k) [so,xo]=some [.slice (some ⟨b0,J,none⟩) 0 0,x]:=by{simp[cZ,hs,hx]};have g:(!(P.length==d*R.size&&P.all one&&Nat.blt 0 R.size&&Nat.blt 0 by_&&Nat.ble ((0+d)*by_) 140737488355328))=false:=by{have h1:(P.length==d*R.size)=true:=by{rw[aa.len,hlen];simp};have h2:Nat.blt 0 R.size=true:=RZ f.1;have h3:Nat.blt 0 by_=true:=RZ f.2;have h4:Nat.ble ((0+d)*by_) 140737488355328=true:=RZ (by rw[yo];exact ab);rw[h1,h2,h3,h4,aa.one];rfl};by_cases ae:d=0;{subst ae;have az:ys=[]:=D1 hlen.symm;subst az;refine WT.step (l:=[]) hl λe0 h0 hk af=>⟨.slice (some ⟨b0,J,none⟩) 0 0,h0,F,[]::own,⟨0,λN _=>?_⟩,aw.le.refl F,af.le (ah.flat (ri _)),by{rw[j,aA hn];exact h _ _ [] ⟨rfl,.inl rfl,λ_=>rfl,λh=>(by cases h),λp hp=>(by cases hp;rfl),.inl rfl⟩ (λ_=>rfl)}⟩;refine gj hk hw ?_ _;rw[U];simp only[aQ,hv,bD,dP,bz hT hr hd,bI hT ac,cT hT hz,e9 hT ad,I h0 af,g,zy];simp};{have a1:(d==0)=false:=by{simpa using ae};refine WT.new (mk:=λi=>.slice (some ⟨i,0,none⟩) d R.size) (b:=.cells false P) hw hl (λh0 s0=>?_) (λi hi=>?_);{rw[U];simp only[aQ,hv,bD,dP,bz hT hr hd,bI hT ac,cT hT hz,e9 hT ad,I h0 s0,g,a1,zy];simp};{rw[j,aA hn];refine h _ _ _ ⟨hlen,.inr rfl,λh=>?_,λh=>(by cases h),λp hp=>(by cases hp;rfl),.inr ⟨i,P,rfl,rfl,aa,f.1⟩⟩ (λh=>?_);{have:=f.1;omega};{subst h;simp at hlen;omega}}}
theorem ah.Py{X B:List (Nat×aC)}{p:Nat}(f:own[p]?=some B):ah (own.set p X) (X::own):=by have g:ah (X::own.eraseIdx p) (X::own):=ah.cons _ (ah.sub (List.eraseIdx_sublist _ _));exact ah.trans (ah.perm (ff X f).symm) g
theorem WT.Hr(hT:aP C T=true)(p:Nat){B:List (Nat×aC)}{db:List (Nat×aC)->bH}{a:Option Addr}{m c d by_:Nat}{xs ys:List α}{I:List Value}{t e:Nat}{ts:List TypeId}{r:Row}{z x:Value}{xo so:Operand}
  (hb:er R F a m c B xs) (hc:xs=[]->c=0) (hp:own[p]?=some B) (P:∀B',jG own p B'=some (db B')) (aa:o.op=.call ⟨.builtin .append,⟨[so,xo]⟩,⟨t::ts⟩⟩) (hw:aH ops k o=some true) {dst:Nat} (U:o.dst=some dst) (hn:Nat.blt dst n=true)
  (hs:aW C k so=some (.slice a m c)) (hx:aW C k xo=some x) (hr:rowOf T t=some r) (hd:r.d=.slice e) (ab:dW T e=some R.size) (hz:gq T e=some z) (ac:kz T e=some by_)
  (g:∀h,St F own h->fV C h e R.size ts.head? x=some (d,I)) (J:aF R F I ys) (hlen:d=ys.length) (f:0<d/\0<R.size/\0<by_) (i:(m+d)*by_<=140737488355328)
  (h:∀a' c' B',cu R F a' (m+d) c' B' (xs++ys)->WT C n ops rest ((dst,.slice a' (m+d) c')::k) F (db B') (λk2 F2 own2 rs=>Q k2 F2 own2 (⟨F,own,F,db B',[]⟩::rs))) :
  WT C n ops (o::rest) k F own Q:=by by_cases ag:xs=[];{subst ag;obtain rfl:=hc rfl;have hm:m=0:=hb.len;subst hm;have hl:bg (aW C k) o.op=some []:=by{rw[aa];rfl};have j:(!(I.length==d*R.size&&I.all one&&Nat.blt 0 R.size&&Nat.blt 0 by_&&Nat.ble ((0+d)*by_) 140737488355328))=false:=by{have h1:(I.length==d*R.size)=true:=by{rw[J.len,hlen];simp};have h2:Nat.blt 0 R.size=true:=RZ f.2.1;have h3:Nat.blt 0 by_=true:=RZ f.2.2;have h4:Nat.ble ((0+d)*by_) 140737488355328=true:=RZ i;rw[h1,h2,h3,h4,J.one];rfl};have al:(d==0)=false:=by{have:=f.1;cases d with | zero=>omega | succ d=>rfl};have hv:cZ (aW C k) [so,xo]=some [.slice a 0 0,x]:=by{simp[cZ,hs,hx]};refine WT.step (l:=[]) hl λe0 h0 hk ae=>?_;obtain⟨s1,s2,s3⟩:=ae.alloc (.cells false I);have e1:=cA _ _ _ _ (P [(h0.next,.cells false I)]);refine⟨.slice (some ⟨h0.next,0,none⟩) (0+d) R.size,h0.alloc (.cells false I),F,db [(h0.next,.cells false I)],⟨0,λN _=>?_⟩,aw.le.refl F,?_,?_⟩;{refine gj hk hw ?_ _;rw[aa];cases a with|none=>{simp only[aQ,hv,bD,dP,bz hT hr hd,bI hT ab,cT hT hz,e9 hT ac,g h0 ae,j,al,zy];simp}|some q=>{obtain⟨b0,a8,az⟩:=q;have:az=none:=hb.spot _ rfl;subst this;simp only[aQ,hv,bD,dP,bz hT hr hd,bI hT ab,cT hT hz,e9 hT ac,g h0 ae,j,al,zy];simp}};{rw[<-e1];exact s1.le (ah.Py hp)};{rw[U,aA hn];exact h _ _ _ ⟨by simp;exact hlen,.inr ⟨h0.next,I,rfl,rfl,rfl,by simpa using J,f.2.1⟩⟩}};{exact WT.bu hT p (hb.Rg ag) hp P aa hw U hn hs hx hr hd ab hz ac g J hlen f i h}
theorem WT.pN(p:Nat){f:FuncId}{fn:Func}{fo:Operand}{r:Array Operand}{ts:Array TypeId}{args args' first capt:List Value}{B:List (Nat×aC)}{up:List (Nat×aC)->bH}{P:aw->Value->List (Nat×aC)->Prop}(hf:C.func f=some fn)(hb:fn.body.isSome=true)(t:o.op=.call ⟨.value fo,r,ts⟩)
  (hw:aH ops k o=some true) {dst:Nat} (I:o.dst=some dst) (hn:Nat.blt dst n=true) (U:aW C k fo=some (.func (.func f) ⟨first⟩ ⟨capt⟩)) (hv:cZ (aW C k) r.toList=some args) (i:first++args++capt=args') (hp:own[p]?=some B) (J:∀g,jG own p g=some (up g))
  (spec:Spec C f args' F [B] λj v o=>∃g,o=[g]/\P j v g)
  (h:∀j v g,aw.le F j->P j v g->WT C n ops rest ((dst,v)::k) j (up g) (λk2 F2 own2 rs=>Q k2 F2 own2 (⟨F,own,j,up g,[]⟩::rs))) :
  WT C n ops (o::rest) k F own Q:=by subst i;refine WT.step (l:=[]) (by rw[t];rfl) λe h' hk hs=>?_;obtain⟨v,h1,F1,af,⟨m,hd⟩,hF,aa,g,rfl,ab⟩:=spec (own.eraseIdx p) h' (hs.perm (cw hp));have e1:=cA _ _ _ _ (J g);refine⟨v,h1,F1,up g,⟨m,λN hN=>?_⟩,hF,?_,by rw[I,aA hn];exact h F1 v g hF ab⟩;{unfold dj;rw[eJ hk hw];have:aQ C (aW C k) h' o.op=some (.call f (first++args++capt)):=by{rw[t];simp only[aQ,U,hv,re hf hb]};simp only[dY hk.eval this,hd N hN]};{rw[<-e1];exact aa.perm (ff g hp).symm}
end
end Go.Abs
/-
 Entries of map literals.
-/
set_option linter.unusedVariables false
namespace Go.Abs
open Go
section
variable {C:Ctx}{T:RT}{t:TypeId}{κ:Type}[DecidableEq κ](K:oW C t κ)
variable {n:Nat}{k:bY}{F:aw}{own:bH}{ops rest:List Oper}{o:Oper}{Q:bY->aw->bH->List Rec->Prop}
theorem WT.KG(hT:aP C T=true)(p q:Nat){I et:TypeId}{J P R:Operand}{i:Nat}{m:bS κ}{key:κ}{v:Value}{r:Row}{B U:List (Nat×aC)}{be:bH}(f:o.op=.insert I J P R)(hw:aH ops k o=some true)(g:o.dst=none)
  (hm:aW C k J=some (.map (some i))) (hk:aW C k P=some (K.key key)) (hv:aW C k R=some v) (hp:own[p]?=some B) (hq:B[q]?=some (i,aC.map (aK K m))) (hr:rowOf T I=some r) (hd:r.d=.map t et)
  (hB:wy B q (i,.map (aK K (cy m key v)))=some U) (ho:jG own p U=some be)
  (h:WT C n ops rest k F be (λk2 F2 own2 rs=>Q k2 F2 own2 (⟨F,own,F,be,[]⟩::rs))):WT C n ops (o::rest) k F own Q:=by (have e1:=gJ _ _ _ _ hB;have e2:=cA _ _ _ _ ho;subst e1;subst e2;refine WT.put (v:=cl) (b':=.map (aK K (cy m key v))) p q hp hq hw (by rw[f];rfl) (λh0 s0 hb=>?_) (by rw[g];exact h);rw[f];rcases fA K key m 0 with ⟨h3,l⟩ | ⟨j,v2,h3,l,h5,h6⟩);{simp only[aQ,hm,hk,hv,bW,dJ hT hr hd,hb,de K m,K.ok,l,kj K key v m h3];rfl};{simp only[aQ,hm,hk,hv,bW,dJ hT hr hd,hb,de K m,jx K,K.ok,l,yo,h5,eP,<-h6 v];rfl}
end
end Go.Abs
/-
 Method calls,interfaces,addresses held against each other;maps with marks of what was deleted;own slices at the beginning of a longer block.
-/
set_option linter.unusedVariables false
namespace Go.Abs
open Go
structure GB{α:Type}(R:Ty α)(F:aw)(a:Option Addr)(n c:Nat)(B:List (Nat×aC))(xs:List α):Prop where
 len:n=xs.length
 at_:(xs=[]/\a=none/\c=0/\B=[])\/∃i cs rest,a=some ⟨i,0,none⟩/\c=R.size/\B=[(i,.cells false (cs++rest))]/\aF R F cs xs/\0<R.size
section
variable {α:Type}{R:Ty α}{F G:aw}{a:Option Addr}{n c:Nat}{B:List (Nat×aC)}{xs:List α}
theorem cu.gb(h:cu R F a n c B xs):GB R F a n c B xs:=
 ⟨h.len,h.at_.imp id λ⟨i,cs,f,g,j,l,o⟩=>⟨i,cs,[],f,g,by rw[R3];exact j,l,o⟩⟩
theorem GB.mono(h:GB R F a n c B xs)(f:aw.le F G):GB R G a n c B xs:=
 ⟨h.len,h.at_.imp id λ⟨i,cs,rest,g,j,l,o,p⟩=>⟨i,cs,rest,g,j,l,o.mono f,p⟩⟩
theorem aF.take{cs:List Value}{xs:List α}(h:aF R F cs xs):∀k,k<=xs.length->aF R F (cs.take (k*R.size)) (xs.take k):=by induction h with|nil=>{intro k hk;simp;exact .nil}| @cons l cs x xs f j g=>{intro k hk;cases k with|zero=>{simp;exact .nil}|succ k=>{have i:=R.len _ _ _ f;have e:(l++cs).take ((k+1)*R.size)=l++cs.take (k*R.size):=by{rw[show (k+1)*R.size=l.length+k*R.size by rw[i,Sq];omega,List.take_append,pf (by omega)];congr 1;congr 1;omega};rw[e,UA];exact .cons f (g k (by simpa using hk))}}
theorem GB.take(h:GB R F a n c B xs){k:Nat}(hk:k<=n):GB R F a k c B (xs.take k):=by have p:=h.len;refine⟨by simp;omega,?_⟩;rcases h.at_ with ⟨rfl,f,g,j⟩ | ⟨i,cs,rest,l,f,g,j,o⟩;{exact .inl ⟨by simp,f,g,j⟩};{refine .inr ⟨i,cs.take (k*R.size),cs.drop (k*R.size)++rest,l,f,?_,j.take k (by omega),o⟩;rw[<-AS,S0];exact g}
theorem pD{cs rest:List Value}{off n:Nat}{l:List Value}(h:bE cs off n=some l):bE (cs++rest) off n=some l:=by obtain⟨f,g⟩:=Ma h;refine og ?_ g;rcases Sd n with h0 | h0;{subst h0;rw[f];simp};{have:off+n<=cs.length:=by{have:=congrArg List.length f;rw[g] at this;simp at this;omega};rw[TP (by omega),Ta (by simp;omega)];exact f}
theorem GB.arr(h:GB R F a n c B xs)(g:aw.le F G)(o:∀i b,(i,b)∈B->G i=some b):a7 R G a n c xs:=by have f:=h.len;rcases h.at_ with ⟨rfl,rfl,rfl,rfl⟩ | ⟨i,cs,rest,rfl,rfl,rfl,r,P⟩;{have:n=0:=f;subst this;exact a7.dF R G};{refine⟨f,.inr rfl,λh=>(by omega),λh=>(by cases h),λp t=>(by cases t;rfl),λj x C=>?_⟩;obtain⟨l,I,J⟩:=(r.mono g).at j x C;exact⟨i,0,false,cs++rest,l,rfl,o i _ (R2 ..),by rw[yo];exact pD I,J⟩}
theorem GB.Ql{i:Nat}(h:GB R F (some ⟨i,0,none⟩) n c B xs):Nd R F i n B xs/\c=R.size:=by have f:=h.len;rcases h.at_ with ⟨_,g,_,_⟩ | ⟨j,cs,rest,o,g,p,l,r⟩;{cases g};{cases o;refine⟨⟨f,r,cs++rest,cs,p,?_,l⟩,g⟩;have:=l.len;refine og ?_ (by rw[this,<-f]);rw[TE,Ta (by rw[this,<-f];exact mc _),pf (by rw[this,<-f];exact mc _)]}
end
section
variable {C:Ctx}{T:RT}{n:Nat}{k:bY}{F:aw}{own:bH}{ops rest:List Oper}{o:Oper}{Q:bY->aw->bH->List Rec->Prop}{α:Type}{R:Ty α}
theorem WT.wG(hT:aP C T=true)(p:Nat){B:List (Nat×aC)}{db:List (Nat×aC)->bH}{a:Option Addr}{m c d by_:Nat}{xs ys:List α}{U:List Value}{t e:Nat}{ts:List TypeId}{r:Row}{z x:Value}{xo so:Operand}
  (hb:GB R F a m c B xs) (hp:own[p]?=some B) (l:∀B',jG own p B'=some (db B')) (aa:o.op=.call ⟨.builtin .append,⟨[so,xo]⟩,⟨t::ts⟩⟩) (hw:aH ops k o=some true) {dst:Nat} (I:o.dst=some dst) (hn:Nat.blt dst n=true)
  (hs:aW C k so=some (.slice a m c)) (hx:aW C k xo=some x) (hr:rowOf T t=some r) (hd:r.d=.slice e) (ad:dW T e=some R.size) (hz:gq T e=some z) (ae:kz T e=some by_)
  (J:∀h,St F own h->fV C h e R.size ts.head? x=some (d,U)) (g:aF R F U ys) (hlen:d=ys.length) (P:0<d/\0<R.size/\0<by_) (f:(m+d)*by_<=140737488355328)
  (h:∀a' c' B',cu R F a' (m+d) c' B' (xs++ys)->WT C n ops rest ((dst,.slice a' (m+d) c')::k) F (db B') (λk2 F2 own2 rs=>Q k2 F2 own2 (⟨F,own,F,db B',[]⟩::rs))) :
  WT C n ops (o::rest) k F own Q:=by have hm:=hb.len;rcases hb.at_ with ⟨h1,h2,h3,h4⟩ | ⟨i,cs,af,h1,h2,h3,h4,h5⟩;{exact WT.bu hT p (⟨hm,.inl ⟨h1,h2,h3,h4⟩⟩:cu R F a m c B xs) hp l aa hw I hn hs hx hr hd ad hz ae J g hlen P f h};{subst h1;obtain⟨bd,hc⟩:=hb.Ql;subst hc;subst h3;have h6:bE (cs++af) 0 (m*R.size)=some cs:=by{have:=h4.len;refine og ?_ (by rw[this,<-hm]);rw[TE,Ta (by rw[this,<-hm];exact mc _),pf (by rw[this,<-hm];exact mc _)]};have hl:bg (aW C k) o.op=some []:=by{rw[aa];rfl};have hv:cZ (aW C k) [so,xo]=some [.slice (some ⟨i,0,none⟩) m R.size,x]:=by{simp[cZ,hs,hx]};have ab:(!(U.length==d*R.size&&U.all one&&Nat.blt 0 R.size&&Nat.blt 0 by_&&Nat.ble ((m+d)*by_) 140737488355328))=false:=by{have g1:(U.length==d*R.size)=true:=by{rw[g.len,hlen];simp};have g2:Nat.blt 0 R.size=true:=RZ h5;have g3:Nat.blt 0 by_=true:=RZ P.2.2;have g4:Nat.ble ((m+d)*by_) 140737488355328=true:=RZ f;rw[g1,g2,g3,g4,g.one];rfl};have av:(d==0)=false:=by{simp;omega};refine WT.move (mk:=λj=>.slice (some ⟨j,0,none⟩) (m+d) R.size) (b:=.cells false (cs++af)) (b':=.cells false (cs++U)) p hp hw hl (λh0 s0 hg=>?_) (λj hj=>?_);{rw[aa];have ax:(R.size==0)=false:=by{simp;omega};have az:(!(R.size==R.size))=false:=by{simp};simp only[aQ,hv,bD,dP,bz hT hr hd,bI hT ad,cT hT hz,e9 hT ae,J h0 s0,ab,av,zy,ax,az,hg,h6];rfl};{rw[I,aA hn,cA _ _ _ _ (l [(j,.cells false (cs++U))])];exact h _ _ _ ⟨by simp;omega,.inr ⟨j,_,rfl,rfl,rfl,h4.append g,h5⟩⟩}}
theorem WT.BZ(hT:aP C T=true){t e:Nat}{r:Row}{xo f:Operand}{a:Option Addr}{m c j:Nat}{B:List (Nat×aC)}{xs:List α}(hb:GB R F a m c B xs)(g:o.op=.slice t xo none (some f) none)(hw:aH ops k o=some true){dst:Nat}(p:o.dst=some dst)(hn:Nat.blt dst n=true)
  (hx:aW C k xo=some (.slice a m c)) (hi:aW C k f=some (.int .i64 (j:Nat))) (hr:rowOf T t=some r) (hd:r.d=.slice e) (hs:dW T e=some R.size) (hj:j<=m)
  (h:WT C n ops rest ((dst,.slice a j c)::k) F own (λk2 F2 own2 rs=>Q k2 F2 own2 (⟨F,own,F,own,[]⟩::rs))):WT C n ops (o::rest) k F own Q:=by have I:∀h0,gO C h0 t (.slice a m c) none (some (.int .i64 (j:Nat))) none=some (.slice a j c):=by{intro h0;have J:dc (some (.int .i64 (j:Nat))) m=some j:=by{simp[dc]};have P:dc none 0=some 0:=rfl;have e0:Nat.ble 0 j=true:=by{simp};have e1:Nat.ble j m=true:=RZ hj;rcases hb.at_ with ⟨U,g2,g3,g4⟩ | ⟨i,cs,az,U,g2,g3,g4,g5⟩;{subst g2;have hm:=hb.len;rw[U] at hm;have hm:m=0:=hm;subst hm;have:j=0:=by{omega};subst this;subst g3;simp only[gO,bz hT hr hd,bI hT hs,P,J];rfl};{subst U g2;simp only[gO,bz hT hr hd,bI hT hs,P,J,e0,e1];simp}};refine WT.slice (x:=.slice a m c) (vlo:=none) (vhi:=some (.int .i64 (j:Nat))) (l:=[]) g hw p hn (by rw[g];simp only[bg,hx]) hx rfl (by simp[lO,hi]) I h
end
section
variable {C:Ctx}{T:RT}{n:Nat}{k:bY}{F:aw}{own:bH}{ops rest:List Oper}{o:Oper}{Q:bY->aw->bH->List Rec->Prop}
theorem Bh(hT:aP C T=true){t:Nat}{r:Row}(q:rowOf T t=some r):∃d,C.g9 t=some d/\yw d=false:=by obtain⟨_,_,_,_,d,g,f⟩:=dD hT q;refine⟨d,g,?_⟩;cases d<;>first | rfl | (unfold j5 at f;split at f<;>simp_all)
theorem WT.Ck(hT:aP C T=true){t:TypeId}{i:Operand}{a:Value}{r:Row}{dst:Nat}(f:o.op=.makeInterface t i)(hw:aH ops k o=some true)(g:o.dst=some dst)(j:Nat.blt dst n=true)
  (p:aW C k i=some a) (I:rowOf T t=some r)
  (h:WT C n ops rest ((dst,.iface t a)::k) F own (λk2 J own2 rs=>Q k2 J own2 (⟨F,own,F,own,[]⟩::rs))):WT C n ops (o::rest) k F own Q:=by refine WT.still hw (l:=[]) (by rw[f];rfl) (λU _=>?_) (by rw[g,aA j];exact h);obtain⟨d,P,R⟩:=Bh hT I;rw[f];simp only[aQ,p,P];cases d<;>first | rfl | cases R
theorem WT.Ib(hT:aP C T=true){t j:TypeId}{i:Operand}{v:Value}{r:Row}{b:Bool}{dst:Nat}(f:o.op=.typeAssert i j t b)(hw:aH ops k o=some true)(g:o.dst=some dst)(p:Nat.blt dst n=true)
  (I:aW C k i=some (.iface t v)) (J:rowOf T t=some r)
  (h:WT C n ops rest ((dst,bif b then .tuple ⟨[v,.bool true]⟩ else v)::k) F own (λk2 P own2 rs=>Q k2 P own2 (⟨F,own,F,own,[]⟩::rs))):WT C n ops (o::rest) k F own Q:=by refine WT.still hw (l:=[]) (by rw[f];rfl) (λh0 _=>?_) (by rw[g,aA p];exact h);obtain⟨d,R,U⟩:=Bh hT J;rw[f];simp only[aQ,I,lG,R,U,zy,Uo,xf];rfl
theorem WT.ptrEq(hT:aP C T=true){t ty:TypeId}{P R:Operand}{i j e s:Nat}{cs ds:List Value}{r:Row}{dst:Nat}(f:o.op=.binOp .eql t P R ty)(hw:aH ops k o=some true)(g:o.dst=some dst)(hn:Nat.blt dst n=true)
  (I:aW C k P=some (.pointer (some ⟨i,0,none⟩))) (J:aW C k R=some (.pointer (some ⟨j,0,none⟩))) (hi:F i=some (.cells false cs)) (hj:F j=some (.cells false ds)) (U:rowOf T t=some r) (hd:r.d=.pointer e) (hs:dW T e=some (s+1))
  (h:WT C n ops rest ((dst,.bool (i==j))::k) F own (λk2 F2 own2 rs=>Q k2 F2 own2 (⟨F,own,F,own,[i,j]⟩::rs))):WT C n ops (o::rest) k F own Q:=by refine WT.still hw (l:=[i,j]) (by rw[f];simp only[bg,I,J];rfl) (λh0 s0=>?_) (by rw[g,aA hn];exact h);rw[f];have l1:live h0 i=true:=by{unfold live;rw[s0.z4 _ _ hi]};have l2:live h0 j=true:=by{unfold live;rw[s0.z4 _ _ hj]};have e0:(s+1==0)=false:=by{simp};cases p:i==j with|true=>{simp only[aQ,I,J,jL,iT,equalA,iB hT U hd,bI hT hs,e0,p,xf,zy];rfl}|false=>{simp only[aQ,I,J,jL,iT,equalA,iB hT U hd,bI hT hs,e0,p,l1,l2,Tk,xf,zy];rfl}
theorem zB{ro:Operand}{g:Array Operand}{ts:Array TypeId}{name:String}{f:FuncId}{fn:Func}{recv x:Value}{args:List Value}(j:C.func f=some fn)(l:fn.body.isSome=true)(i:o.op=.call ⟨.invoke ro name,g,ts⟩)
  (p:aW C k ro=some x) (r:cZ (aW C k) g.toList=some args) {h:au} (hm:gI C h x name=some (f,recv)):aQ C (aW C k) h o.op=some (.call f (recv::args)):=by rw[i];simp only[aQ,p,r,hm,j,l,xf]
theorem WT.mn(p:Nat){ro:Operand}{j:Array Operand}{ts:Array TypeId}{name:String}{f:FuncId}{fn:Func}{recv x:Value}{args:List Value}{B:List (Nat×aC)}{up:List (Nat×aC)->bH}{P:aw->Value->List (Nat×aC)->Prop}(hf:C.func f=some fn)(hb:fn.body.isSome=true)(r:o.op=.call ⟨.invoke ro name,j,ts⟩)
  (hw:aH ops k o=some true) {dst:Nat} (t:o.dst=some dst) (hn:Nat.blt dst n=true) (hr:aW C k ro=some x) (hv:cZ (aW C k) j.toList=some args) (hm:∀h,St F own h->gI C h x name=some (f,recv)) (U:own[p]?=some B) (I:∀g,jG own p g=some (up g))
  (spec:Spec C f (recv::args) F [B] λi v o=>∃g,o=[g]/\P i v g)
  (h:∀i v g,aw.le F i->P i v g->WT C n ops rest ((dst,v)::k) i (up g) (λk2 F2 own2 rs=>Q k2 F2 own2 (⟨F,own,i,up g,[]⟩::rs))) :
  WT C n ops (o::rest) k F own Q:=by refine WT.step (l:=[]) (by rw[r];rfl) λe h' hk hs=>?_;obtain⟨v,h1,F1,ac,⟨m,hd⟩,hF,J,g,rfl,R⟩:=spec (own.eraseIdx p) h' (hs.perm (cw U));have e1:=cA _ _ _ _ (I g);refine⟨v,h1,F1,up g,⟨m,λN hN=>?_⟩,hF,?_,by rw[t,aA hn];exact h F1 v g hF R⟩;{unfold dj;rw[eJ hk hw];simp only[dY hk.eval (zB hf hb r hr hv (hm h' hs)),hd N hN]};{rw[<-e1];exact J.perm (ff g U).symm}
theorem WT.jo(p:Nat){ro:Operand}{g:Array Operand}{ts:Array TypeId}{name:String}{f:FuncId}{fn:Func}{recv x:Value}{args:List Value}{B:List (Nat×aC)}{P:Value->Prop}(hf:C.func f=some fn)(hb:fn.body.isSome=true)(j:o.op=.call ⟨.invoke ro name,g,ts⟩)
  (hw:aH ops k o=some true) {dst:Nat} (r:o.dst=some dst) (hn:Nat.blt dst n=true) (hr:aW C k ro=some x) (hv:cZ (aW C k) g.toList=some args) (hm:∀h,St F own h->gI C h x name=some (f,recv)) (J:own[p]?=some B)
  (spec:∀G,aw.le F G->(∀i b,(i,b)∈B->G i=some b)->Spec C f (recv::args) G [] λ_ v o=>o=[]/\P v)
  (h:∀v,P v->WT C n ops rest ((dst,v)::k) F own (λk2 F2 own2 rs=>Q k2 F2 own2 (⟨F,own,F,own,[]⟩::rs))) :
  WT C n ops (o::rest) k F own Q:=by refine WT.step (l:=[]) (by rw[j];rfl) λe R hk hs=>?_;obtain⟨v,h1,F1,U,⟨m,hd⟩,hF,t,o',rfl,rfl,I⟩:=Spec.H8 spec (own.eraseIdx p) R (hs.perm (cw J));refine⟨v,h1,F,own,⟨m,λN hN=>?_⟩,aw.le.refl F,?_,by rw[r,aA hn];exact h v I⟩;{unfold dj;rw[eJ hk hw];simp only[dY hk.eval (zB hf hb j hr hv (hm R hs)),hd N hN]};{exact(t.nh hF).perm (cw J).symm}
end
section
variable {C:Ctx}{T:RT}{n:Nat}{k:bY}{F:aw}{own:bH}{ops rest:List Oper}{o:Oper}{Q:bY->aw->bH->List Rec->Prop}{α:Type}{R:Ty α}
theorem GB.B9{a:Option Addr}{m c:Nat}{B:List (Nat×aC)}{xs:List α}(g:GB R F a m c B xs){j:Nat}{x:α}(f:xs[j]?=some x):∃i cs rest,a=some ⟨i,0,none⟩/\c=R.size/\B=[(i,.cells false (cs++rest))]/\aF R F cs xs/\0<R.size:=
 g.at_.resolve_left λh=>by rw[h.1] at f;simp at f
theorem WT.wu(hT:aP C T=true){t e:Nat}{r:Row}{p io:Operand}{a:Option Addr}{m c:Nat}{B:List (Nat×aC)}{xs:List α}{J:IntKind}{j:Nat}(I:GB R F a m c B xs)(g:o.op=.indexAddr t p io)(hw:aH ops k o=some true){dst:Nat}(f:o.dst=some dst)(P:Nat.blt dst n=true)
  (U:aW C k p=some (.slice a m c)) (hi:aW C k io=some (.int J (j:Nat))) (hr:rowOf T t=some r) (hd:r.d=.slice e) (hs:dW T e=some R.size) (hj:j<m)
  (h:∀b,a=some ⟨b,0,none⟩->WT C n ops rest ((dst,.pointer (some ⟨b,0+j*R.size,none⟩))::k) F own (λk2 F2 own2 rs=>Q k2 F2 own2 (⟨F,own,F,own,[]⟩::rs))):WT C n ops (o::rest) k F own Q:=by have hm:=I.len;obtain⟨i,cs,ae,rfl,rfl,rfl,h4,h5⟩:=I.B9 (Sn (l:=xs) (i:=j) (by omega));exact WT.cz hT g hw f P U hi hr hd hs hj (h i rfl)
theorem GB.el{a:Option Addr}{m c b:Nat}{B:List (Nat×aC)}{xs:List α}(p:GB R F a m c B xs)(f:a=some ⟨b,0,none⟩){j:Nat}{x:α}(g:xs[j]?=some x):∃cs l,(b,aC.cells false cs)∈B/\bE cs (0+j*R.size) R.size=some l/\R.rel F l x:=by obtain⟨i,cs,r,t,h2,I,J,h5⟩:=p.B9 g;rw[t] at f;cases f;obtain⟨l,P,U⟩:=J.at j x g;exact⟨_,l,by rw[I];exact R2 ..,by rw[yo];exact pD P,U⟩
theorem WT.Md(hT:aP C T=true)(p:Nat){t:TypeId}{J:Operand}{a:Option Addr}{m c j b:Nat}{B P:List (Nat×aC)}{xs:List α}{x:α}{r:Row}(U:GB R F a m c B xs)(ha:a=some ⟨b,0,none⟩)(hj:xs[j]?=some x)(i:o.op=.load t J)(hw:aH ops k o=some true){dst:Nat}(f:o.dst=some dst)(hn:Nat.blt dst n=true)
  (I:aW C k J=some (.pointer (some ⟨b,0+j*R.size,none⟩))) (hp:own[p]?=some P) (g:∀z,z∈B->z∈P) (hr:rowOf T t=some r) (hd:r.d.agg=true) (hs:r.size=R.size)
  (h:∀l,R.rel F l x->WT C n ops rest ((dst,.agg ⟨l⟩)::k) F own (λk2 F2 own2 rs=>Q k2 F2 own2 (⟨F,own,F,own,[b]⟩::rs))):WT C n ops (o::rest) k F own Q:=by obtain⟨cs,l,h1,h2,h3⟩:=U.el ha hj;exact WT.s4 p i hw I hp (g _ h1) (uW hT hr hd hs h2) (by rw[f,aA hn];exact h l h3)
theorem WT.K7(hT:aP C T=true)(p:Nat){t:TypeId}{U:Operand}{a:Option Addr}{m c j b:Nat}{B B2:List (Nat×aC)}{xs:List α}{x:α}{r:Row}(hv:GB R F a m c B xs)(ha:a=some ⟨b,0,none⟩)(hj:xs[j]?=some x)(i:o.op=.load t U)(hw:aH ops k o=some true){dst:Nat}(f:o.dst=some dst)(hn:Nat.blt dst n=true)
  (I:aW C k U=some (.pointer (some ⟨b,0+j*R.size,none⟩))) (hp:own[p]?=some B2) (g:∀z,z∈B->z∈B2) (hr:rowOf T t=some r) (hd:r.d.agg=false) (hs:R.size=1)
  (h:∀v,R.rel F [v] x->WT C n ops rest ((dst,v)::k) F own (λk2 F2 own2 rs=>Q k2 F2 own2 (⟨F,own,F,own,[b]⟩::rs))):WT C n ops (o::rest) k F own Q:=by obtain⟨cs,l,h1,J,h3⟩:=hv.el ha hj;have hl:=R.len _ _ _ h3;rw[hs] at hl J;obtain⟨v,rfl⟩:∃v,l=[v]:=List.length_eq_one_iff.1 hl;rw[<-hs] at J;have P:bE cs (0+j*R.size) 1=some [v]:=by{rw[<-hs];exact J};exact WT.loadAt hT p i hw f hn I hp (g _ h1) hr hd (AA P rfl) (h v h3)
theorem GB.set{a:Option Addr}{m c b:Nat}{cs:List Value}{xs:List α}(h:GB R F a m c [(b,.cells false cs)] xs){j:Nat}{x y:α}{l:List Value}(f:xs[j]?=some x)(t:R.rel F l y) :
  GB R F a m c [(b,.cells false (bp cs (0+j*R.size) l))] (xs.set j y):=by obtain⟨i,g,p,P,U,I,J,h5⟩:=h.B9 f;simp only[Te,R7,aC.cells.injEq,Uw,Uk] at I;obtain⟨rfl,rfl⟩:=I;have hlen:=J.len;have r:j<xs.length:=(No.1 f).1;have hm:(j+1)*R.size<=xs.length*R.size:=Sf _ r;have ab:=R.len _ _ _ t;rw[Sq,S2] at hm;refine⟨by rw[Su];exact h.len,.inr ⟨b,bp g (j*R.size) l,p,P,U,?_,J.set t f,h5⟩⟩;congr 3;rw[yo];unfold bp;rw[Ta (by omega),TP (by omega),AS,AS]
theorem WT.QZ(hT:aP C T=true)(p:Nat){t:TypeId}{ao x:Operand}{a:Option Addr}{m c j b:Nat}{B:List (Nat×aC)}{db:List (Nat×aC)->bH}{xs:List α}{z y:α}{v:Value}(hv:GB R F a m c B xs)(ha:a=some ⟨b,0,none⟩)(r:xs[j]?=some z)(I:o.op=.store t ao x)(hw:aH ops k o=some true)(hd:o.dst=none)
  (J:aW C k ao=some (.pointer (some ⟨b,0+j*R.size,none⟩))) (hx:aW C k x=some v) (P:R.rel F v.cells.toList y) (hp:own[p]?=some B) (l:∀g,jG own p g=some (db g)) (hm:dW T t=some R.size)
  (h:∀g,GB R F a m c g (xs.set j y)->WT C n ops rest k F (db g) (λk2 F2 own2 rs=>Q k2 F2 own2 (⟨F,own,F,db g,[b]⟩::rs))) :
  WT C n ops (o::rest) k F own Q:=by obtain⟨i,cs,f,h1,h2,h3,h4,h5⟩:=hv.B9 r;rw[h1] at ha;cases ha;subst h3;have hlen:=h4.len;have U:j<xs.length:=(No.1 r).1;have aa:(j+1)*R.size<=xs.length*R.size:=Sf _ U;rw[Sq,S2] at aa;have e1:=cA _ _ _ _ (l [(b,.cells false (bp (cs++f) (0+j*R.size) v.cells.toList))]);have ab:=WT.store (C:=C) (n:=n) (k:=k) (F:=F) (own:=own) (ops:=ops) (rest:=rest) (o:=o) (Q:=Q) p 0 I hw J hx hp rfl (bI hT hm) (R.len _ _ _ P) (R.one _ _ _ P) (by rw[q0];omega);refine ab ?_;rw[hd];have e2:([(b,aC.cells false (cs++f))]:List (Nat×aC)).set 0 (b,.cells false (bp (cs++f) (0+j*R.size) v.cells.toList))=[(b,.cells false (bp (cs++f) (0+j*R.size) v.cells.toList))]:=rfl;rw[e2,e1];exact h _ (hv.set r P)
end
end Go.Abs
/-
 Maps with marks of what was deleted: looking up,setting,deleting,entries.
-/
set_option linter.unusedVariables false
namespace Go.Abs
open Go
theorem gw{x:Value×Value}(f:bX x.1=false):∀(es:List (Value×Value)) (j:Nat),alive (aJ x es j)=(alive es).set j x
 | [],j=>by simp[aJ,alive]
 | (k,v)::es,j=>by{obtain⟨g,i⟩:=x;have f:bX g=false:=f;cases hk:bX k with|true=>{cases j with|zero=>{simp only[aJ,alive,hk,xf];exact gw (x:=(g,i)) f es 0}|succ j=>{simp only[aJ,alive,hk,xf];exact gw (x:=(g,i)) f es (j+1)}}|false=>{cases j with|zero=>{simp only[aJ,alive,hk,f,zy,TG]}|succ j=>{simp only[aJ,alive,hk,zy,S7];rw[gw (x:=(g,i)) f es j]}}}
theorem iO{x:Value×Value}(f:bX x.1=true):∀(es:List (Value×Value)) (j:Nat),alive (aJ x es j)=(alive es).eraseIdx j
 | [],j=>by simp[aJ,alive]
 | (k,v)::es,j=>by{obtain⟨g,i⟩:=x;have f:bX g=true:=f;cases hk:bX k with|true=>{cases j with|zero=>{simp only[aJ,alive,hk,xf];exact iO (x:=(g,i)) f es 0}|succ j=>{simp only[aJ,alive,hk,xf];exact iO (x:=(g,i)) f es (j+1)}}|false=>{cases j with|zero=>{simp only[aJ,alive,hk,f,zy,xf,List.eraseIdx_cons_zero]}|succ j=>{simp only[aJ,alive,hk,zy,List.eraseIdx_cons_succ];rw[iO (x:=(g,i)) f es j]}}}
theorem mH:∀(a b:List (Value×Value)),alive (a++b)=alive a++alive b
 | [],_=>rfl
 | (k,v)::a,b=>by{cases hk:bX k with|true=>{simp only[SR,alive,hk,xf];exact mH a b}|false=>{simp only[SR,alive,hk,zy];rw[mH a b]}}
theorem qV:∀(n:Nat) (a b:List (Value×Value)),stamps n (a++b)=stamps n a++stamps (n+a.length) b
 | _,[],_=>by simp[stamps]
 | n,(k,v)::a,b=>by{have e:n+1+a.length=n+((k,v)::a).length:=by{simp;omega};cases hk:bX k with|true=>{simp only[SR,stamps,hk,xf];rw[qV (n+1) a b,e]}|false=>{simp only[SR,stamps,hk,zy];rw[qV (n+1) a b,e]}}
theorem kF:∀(n:Nat) (a:List (Value×Value)),(stamps n a).length=(alive a).length
 | _,[]=>rfl
 | n,(k,v)::a=>by{cases hk:bX k with|true=>{simp only[stamps,alive,hk,xf];exact kF (n+1) a}|false=>{simp only[stamps,alive,hk,zy,If];rw[kF (n+1) a]}}
theorem ni:∀(n:Nat) (a:List (Value×Value)),∀x∈stamps n a,n<=x/\x<n+a.length
 | _,[],x,h=>by cases h
 | n,(k,v)::a,x,h=>by{cases hk:bX k with|true=>{simp only[stamps,hk,xf] at h;have:=ni (n+1) a x h;simp only[If];omega}|false=>{simp only[stamps,hk,zy] at h;rcases IN.1 h with rfl | h;{simp only[If];omega};{have:=ni (n+1) a x h;simp only[If];omega}}}
theorem lL:∀(n:Nat) (a:List (Value×Value)),(stamps n a).Pairwise (·<·)
 | _,[]=>List.Pairwise.nil
 | n,(k,v)::a=>by{cases hk:bX k with|true=>{simp only[stamps,hk,xf];exact lL (n+1) a}|false=>{simp only[stamps,hk,zy];exact List.pairwise_cons.2 ⟨λx f=>by have:=(ni (n+1) a x f).1;omega,lL (n+1) a⟩}}
theorem xS{l:List Nat}(hs:l.Pairwise (·<·)){j n:Nat}(o:l[j]?=some n):l.findIdx? (λ(b:Nat)=>decide ((b:Int)=(n:Int)))=some j:=by obtain⟨f,g⟩:=No.1 o;rw[List.findIdx?_eq_some_iff_getElem];refine⟨f,by simp[g],λi hi=>?_⟩;have:=Sz.1 hs i j (by omega) f hi;rw[g] at this;simp only[SC];omega
def j4{κ:Type}[DecidableEq κ]:bS κ->κ->bS κ
 | [],_=>[]
 | (k',v)::m,k=>if k=k' then m else (k',v)::j4 m k
section
variable {C:Ctx}{T:RT}{t:TypeId}{κ:Type}[DecidableEq κ](K:oW C t κ)
theorem Aj(k:κ):∀(m:bS κ) (i:Nat),(look m k=none/\eZ C t (K.key k) (aK K m) i=some none/\j4 m k=m)\/
  ∃j v,look m k=some v/\eZ C t (K.key k) (aK K m) i=some (some (i+j,v))/\(aK K m).eraseIdx j=aK K (j4 m k)
 | [],i=>.inl ⟨rfl,rfl,rfl⟩
 | (k',v')::m,i=>by{rcases K.eq k k' with ⟨rfl,h⟩ | ⟨f,h⟩;{refine .inr ⟨0,v',by simp[look],?_,by simp[aK,j4]⟩;simp only[aK,y2,eZ,h];rfl};{rcases Aj k m (i+1) with ⟨g,l,o⟩ | ⟨j,v,g,l,o⟩;{refine .inl ⟨by simp only[look];rw[mb f];exact g,?_,by simp only[j4];rw[mb f,o]⟩;simp only[aK,y2,eZ,h];exact l};{refine .inr ⟨j+1,v,by simp only[look];rw[mb f];exact g,?_,?_⟩;{simp only[aK,y2,eZ,h];rw[show i+(j+1)=i+1+j by omega];exact l};{have:j4 ((k',v')::m) k=(k',v')::j4 m k:=by{simp only[j4];rw[mb f]};rw[this];show (K.key k',v')::(aK K m).eraseIdx j=(K.key k',v')::aK K (j4 m k);rw[o]}}}}
theorem D7{k:κ}:∀{m:bS κ} {p:κ×Value},p∈j4 m k->p∈m
 | [],_,h=>h
 | (k',v)::m,p,h=>by{simp only[j4] at h;split at h;{exact ma _ h};{rcases IN.1 h with rfl | h;{exact R2 ..};{exact ma _ (D7 h)}}}
theorem xv{k:κ}:∀{m:bS κ},(m.map (·.1)).Nodup->((j4 m k).map (·.1)).Nodup
 | [],h=>h
 | (k',v)::m,h=>by{simp only[y2,Ss] at h;simp only[j4];split;{exact h.2};{simp only[y2,Ss];refine⟨λhm=>h.1 ?_,xv h.2⟩;obtain⟨p,f,e⟩:=tx.1 hm;exact tx.2 ⟨p,D7 f,e⟩}}
theorem AF{k:κ}{v:Value}:∀{m:bS κ},(m.map (·.1)).Nodup->((cy m k v).map (·.1)).Nodup
 | [],_=>by simp[cy]
 | (k',v')::m,h=>by{simp only[y2,Ss] at h;simp only[cy];split;{simp only[y2,Ss];exact h};{rename_i f;simp only[y2,Ss];refine⟨λhm=>?_,AF h.2⟩;have key:∀{m:bS κ},k'∈(cy m k v).map (·.1)->k'=k\/k'∈m.map (·.1):=by{intro m;induction m with|nil=>{intro hx;simp[cy] at hx;exact .inl hx}|cons p m g=>{obtain⟨a,b⟩:=p;intro hx;simp only[cy] at hx;split at hx;{exact .inr (by simpa using hx)};{rcases IN.1 hx with e | hx;{exact .inr (by simp[e])};{rcases g hx with e | e;{exact .inl e};{exact .inr (by simp only[y2];exact ma _ e)}}}}};rcases key hm with e | e;{exact f e.symm};{exact h.1 e}}}
variable {n:Nat}{k:bY}{F:aw}{own:bH}{ops rest:List Oper}{o:Oper}{Q:bY->aw->bH->List Rec->Prop}
theorem WT.HN(hT:aP C T=true)(p:Nat){P R:TypeId}{U ko:Operand}{i:Nat}{es:List (Value×Value)}{m:bS κ}{key:κ}{r:Row}{z:Value}{B:List (Nat×aC)}{d:Nat}(f:alive es=aK K m)(g:o.op=.lookup P U ko false)(hw:aH ops k o=some true)(l:o.dst=some d)(hn:Nat.blt d n=true)
  (hm:aW C k U=some (.map (some i))) (hk:aW C k ko=some (K.key key)) (hp:own[p]?=some B) (hq:(i,aC.map es)∈B) (hr:rowOf T P=some r) (hd:r.d=.map t R) (hz:gq T R=some z)
  (h1:WT C n ops rest ((d,(look m key).getD z)::k) F own (λk2 F2 own2 rs=>Q k2 F2 own2 (⟨F,own,F,own,[i]⟩::rs))):WT C n ops (o::rest) k F own Q:=by have hl:bg (aW C k) o.op=some [i]:=by{rw[g];simp only[bg,hm]};(refine WT.still hw hl (λh0 s0=>?_) (by rw[l,aA hn];exact h1);have hb:=s0.has hp hq;rw[g];rcases fA K key m 0 with ⟨I,J⟩ | ⟨j,v,I,J,_,_⟩);{simp only[aQ,hm,hk,fC,dJ hT hr hd,ed,hb,f,K.ok,J,cT hT hz,I];rfl};{simp only[aQ,hm,hk,fC,dJ hT hr hd,ed,hb,f,K.ok,J,I];rfl}
theorem WT.Nr(hT:aP C T=true)(p q:Nat){tm et:TypeId}{mo ko vo:Operand}{i:Nat}{es:List (Value×Value)}{m:bS κ}{key:κ}{v:Value}{r:Row}{B:List (Nat×aC)}{db:aC->List (Nat×aC)}{up:aC->bH}(f:alive es=aK K m)(g:o.op=.mapUpdate tm mo ko vo)(hw:aH ops k o=some true)(l:o.dst=none)
  (hm:aW C k mo=some (.map (some i))) (hk:aW C k ko=some (K.key key)) (hv:aW C k vo=some v) (hp:own[p]?=some B) (hq:B[q]?=some (i,aC.map es)) (hr:rowOf T tm=some r) (hd:r.d=.map t et)
  (hB:∀b,wy B q (i,b)=some (db b)) (ho:∀b,jG own p (db b)=some (up b))
  (h:∀I,alive I=aK K (cy m key v)->WT C n ops rest k F (up (.map I)) (λk2 F2 own2 rs=>Q k2 F2 own2 (⟨F,own,F,up (.map I),[]⟩::rs))):WT C n ops (o::rest) k F own Q:=by have ht:=fS K key;rcases fA K key m 0 with ⟨h3,J⟩ | ⟨j,v2,h3,J,h5,h6⟩;{have P:=gJ _ _ _ _ (hB (.map (es++[(K.key key,v)])));have R:=cA _ _ _ _ (ho (.map (es++[(K.key key,v)])));refine WT.put (v:=cl) (b':=.map (es++[(K.key key,v)])) p q hp hq hw (by rw[g];rfl) (λh0 s0 U=>?_) ?_;{rw[g];simp only[aQ,hm,hk,hv,bW,dJ hT hr hd,U,f,K.ok,J];rfl};{rw[l,P,R];refine h _ ?_;rw[mH,f,kj K key v m h3];simp only[alive,ht,zy]}};{have P:=gJ _ _ _ _ (hB (.map (aJ (K.key key,v) es j)));have R:=cA _ _ _ _ (ho (.map (aJ (K.key key,v) es j)));refine WT.put (v:=cl) (b':=.map (aJ (K.key key,v) es j)) p q hp hq hw (by rw[g];rfl) (λh0 s0 U=>?_) ?_;{rw[g];simp only[aQ,hm,hk,hv,bW,dJ hT hr hd,U,f,K.ok,J,yo,h5,eP];rfl};{rw[l,P,R];refine h _ ?_;rw[gw ht,f,h6]}}
theorem WT.Ng(hT:aP C T=true)(p q:Nat){tm et:TypeId}{ts:List TypeId}{P R:Operand}{i:Nat}{es:List (Value×Value)}{m:bS κ}{key:κ}{r:Row}{B:List (Nat×aC)}{db:aC->List (Nat×aC)}{up:aC->bH}(g:alive es=aK K m)(l:o.op=.call ⟨.builtin .delete,⟨[P,R]⟩,⟨tm::ts⟩⟩)(hw:aH ops k o=some true)(I:o.dst=none)
  (hm:aW C k P=some (.map (some i))) (hk:aW C k R=some (K.key key)) (hp:own[p]?=some B) (hq:B[q]?=some (i,aC.map es)) (hr:rowOf T tm=some r) (hd:r.d=.map t et)
  (hB:∀b,wy B q (i,b)=some (db b)) (ho:∀b,jG own p (db b)=some (up b))
  (h:∀J,alive J=aK K (j4 m key)->WT C n ops rest k F (up (.map J)) (λk2 F2 own2 rs=>Q k2 F2 own2 (⟨F,own,F,up (.map J),[]⟩::rs))):WT C n ops (o::rest) k F own Q:=by have f:cZ (aW C k) [P,R]=some [.map (some i),K.key key]:=by{simp only[cZ,hm,hk]};rcases Aj K key m 0 with ⟨h3,U,h5⟩ | ⟨j,v2,h3,U,h5⟩;{have e1:=gJ _ _ _ _ (hB (.map es));have e2:=cA _ _ _ _ (ho (.map es));refine WT.put (v:=cl) (b':=.map es) p q hp hq hw (by rw[l];rfl) (λh0 s0 hb=>?_) ?_;{rw[l];simp only[aQ,f,bD,hZ,dJ hT hr hd,hb,g,K.ok,U];rfl};{rw[I,e1,e2];exact h _ (by rw[g,h5])}};{have e1:=gJ _ _ _ _ (hB (.map (aJ (cl,cl) es j)));have e2:=cA _ _ _ _ (ho (.map (aJ (cl,cl) es j)));refine WT.put (v:=cl) (b':=.map (aJ (cl,cl) es j)) p q hp hq hw (by rw[l];rfl) (λh0 s0 hb=>?_) ?_;{rw[l];simp only[aQ,f,bD,hZ,dJ hT hr hd,hb,g,K.ok,U,yo];rfl};{rw[I,e1,e2];exact h _ (by rw[iO rfl,g,h5])}}
def Ic(m:bS κ)(es:List (Value×Value))(s:Nat)(key:κ):Prop:=
 ∃j,(stamps 0 es)[j]?=some s/\(∃v0,(alive es)[j]?=some (K.key key,v0))/\∀v,(alive es).set j (K.key key,v)=aK K (cy m key v)
theorem s6{α:Type}{l:List α}{p:Nat}{x:α}(h:l[p]?=some x):l.set p x=l:=by obtain⟨f,rfl⟩:=No.1 h;exact List.set_getElem_self f
theorem WT.Of(hT:aP C T=true)(p q:Nat){tm et:TypeId}{mo ko:Operand}{i:Nat}{es:List (Value×Value)}{m:bS κ}{key:κ}{r:Row}{z:Value}{B:List (Nat×aC)}{db:aC->List (Nat×aC)}{up:aC->bH}{d:Nat}(f:alive es=aK K m)(g:o.op=.mapEntry tm mo ko)(hw:aH ops k o=some true)(l:o.dst=some d)(hn:Nat.blt d n=true)
  (hm:aW C k mo=some (.map (some i))) (hk:aW C k ko=some (K.key key)) (P:own[p]?=some B) (R:B[q]?=some (i,aC.map es)) (hr:rowOf T tm=some r) (hd:r.d=.map t et) (hz:gq T et=some z)
  (hB:∀b,wy B q (i,b)=some (db b)) (ho:∀b,jG own p (db b)=some (up b))
  (h:∀I s,Ic K m I s key->WT C n ops rest ((d,.tuple ⟨[(look m key).getD z,.int .i64 (s:Nat)]⟩)::k) F (up (.map I)) (λk2 F2 own2 rs=>Q k2 F2 own2 (⟨F,own,F,up (.map I),[]⟩::rs))):WT C n ops (o::rest) k F own Q:=by have U:=fS K key;rcases fA K key m 0 with ⟨J,h4⟩ | ⟨j,v2,J,h4,h5,h6⟩;{have e1:=gJ _ _ _ _ (hB (.map (es++[(K.key key,z)])));have e2:=cA _ _ _ _ (ho (.map (es++[(K.key key,z)])));refine WT.put (v:=.tuple ⟨[z,.int .i64 (es.length:Nat)]⟩) (b':=.map (es++[(K.key key,z)])) p q P R hw (by rw[g];rfl) (λh0 s0 hb=>?_) ?_;{rw[g];simp only[aQ,hm,hk,dI,dJ hT hr hd,hb,f,K.ok,h4,cT hT hz];rfl};{rw[l,aA hn,e1,e2];have:=h (es++[(K.key key,z)]) es.length ⟨(alive es).length,?_,⟨z,?_⟩,λv=>?_⟩;{rw[J] at this;exact this};{rw[qV,R0 (by rw[kF];exact mc _),kF,Tr,yo];simp only[stamps,U,zy];rfl};{rw[mH,R0 (mc _),Tr];simp only[alive,U,zy];rfl};{rw[mH,UT _ _ (mc _),Tr,f,kj K key v m J];simp only[alive,U,zy];rfl}}};{obtain⟨s,hs⟩:∃s,(stamps 0 es)[j]?=some s:=by{have h7:=(No.1 h5).1;rw[<-f,<-kF 0 es] at h7;exact⟨_,Sn h7⟩};have e1:=gJ _ _ _ _ (hB (.map es));have e2:=cA _ _ _ _ (ho (.map es));have e3:up (.map es)=own:=by{rw[<-e2,<-e1,s6 R,s6 P]};refine WT.still (v:=.tuple ⟨[v2,.int .i64 (s:Nat)]⟩) hw (by rw[g];rfl) (λh0 s0=>?_) ?_;{have hb:=s0.has P (SL R);rw[g];simp only[aQ,hm,hk,dI,dJ hT hr hd,hb,f,K.ok,h4,yo,h5,hs,eP];rfl};{rw[l,aA hn];have:=h es s ⟨j,hs,⟨v2,by rw[f];exact h5⟩,λv=>by rw[f,h6]⟩;rw[J,e3] at this;exact this}}
theorem WT.MP(p q:Nat){P:TypeId}{r I J:Operand}{i s:Nat}{R:IntKind}{es:List (Value×Value)}{m:bS κ}{key:κ}{v:Value}{B:List (Nat×aC)}{db:aC->List (Nat×aC)}{up:aC->bH}(he:Ic K m es s key)(g:o.op=.entryStore P r I J)(hw:aH ops k o=some true)(l:o.dst=none)
  (hm:aW C k r=some (.map (some i))) (hs:aW C k I=some (.int R (s:Nat))) (U:aW C k J=some v) (hp:own[p]?=some B) (hq:B[q]?=some (i,aC.map es))
  (hB:∀b,wy B q (i,b)=some (db b)) (ho:∀b,jG own p (db b)=some (up b))
  (h:∀f,alive f=aK K (cy m key v)->WT C n ops rest k F (up (.map f)) (λk2 F2 own2 rs=>Q k2 F2 own2 (⟨F,own,F,up (.map f),[]⟩::rs))):WT C n ops (o::rest) k F own Q:=by obtain⟨j,h1,⟨v0,h2⟩,h3⟩:=he;have ht:=fS K key;have hf:=xS (lL 0 es) h1;have e1:=gJ _ _ _ _ (hB (.map (aJ (K.key key,v) es j)));have e2:=cA _ _ _ _ (ho (.map (aJ (K.key key,v) es j)));refine WT.put (v:=cl) (b':=.map (aJ (K.key key,v) es j)) p q hp hq hw (by rw[g];rfl) (λh0 s0 hb=>?_) ?_;{rw[g];simp only[aQ,hm,hs,U,dg,hb,hf,h2];rfl};{rw[l,e1,e2];exact h _ (by rw[gw ht,h3])}
end
end Go.Abs
/-
 Entries of maps that are changed where they lie: 'm[k] |= v'.
-/
set_option linter.unusedVariables false
namespace Go.Abs
open Go
section
variable {C:Ctx}{T:RT}{t:TypeId}{κ:Type}[DecidableEq κ](K:oW C t κ)
def jM:bS κ->κ->Nat
 | [],_=>0
 | (k,_)::m,k2=>if k2=k then 0 else jM m k2+1
def kP(m:bS κ)(k:κ)(z:Value):bS κ:=if look m k=none then cy m k z else m
theorem uj(k:κ):∀(m:bS κ) (i:Nat),(look m k=none->eZ C t (K.key k) (aK K m) i=some none/\jM m k=m.length)/\
  (∀v,look m k=some v->eZ C t (K.key k) (aK K m) i=some (some (i+jM m k,v))/\(aK K m)[jM m k]?=some (K.key k,v)/\∀v',(aK K m).set (jM m k) (K.key k,v')=aK K (cy m k v'))
 | [],i=>⟨λ_=>⟨rfl,rfl⟩,λv h=>by cases h⟩
 | (k',v')::m,i=>by{rcases K.eq k k' with ⟨rfl,h⟩ | ⟨f,h⟩;{refine⟨λg=>by simp[look] at g,λv g=>?_⟩;have g:v'=v:=by{simpa [look] using g};subst g;refine⟨?_,?_,λw=>?_⟩;{simp only[aK,y2,eZ,h,jM,nw];rfl};{simp only[jM,nw,aK,y2];rfl};{simp[aK,cy,jM]}};{obtain⟨p,g⟩:=uj k m (i+1);refine⟨λj=>?_,λv j=>?_⟩;{have j:look m k=none:=by{simpa [look,f] using j};obtain⟨l,o⟩:=p j;refine⟨?_,?_⟩;{simp only[aK,y2,eZ,h];exact l};{simp only[jM,mb f,o,If]}};{have j:look m k=some v:=by{simpa [look,f] using j};obtain⟨l,o,r⟩:=g v j;refine⟨?_,?_,λw=>?_⟩;{simp only[aK,y2,eZ,h,jM,mb f];rw[show i+(jM m k+1)=i+1+jM m k by omega];exact l};{simp only[jM,mb f,aK,y2,S4];exact o};{have:=r w;simp only[aK] at this;simp only[jM,mb f,aK,y2,S7,cy,this]}}}}
omit [DecidableEq κ] in
theorem AX:∀(m:bS κ) (s j:Nat),j<m.length->(stamps s (aK K m))[j]?=some (s+j)
 | [],_,_,h=>by simp at h
 | (k,v)::m,s,0,_=>by simp only[aK,y2,stamps,fS K k,zy,Tv,Tc]
 | (k,v)::m,s,j+1,h=>by{have:=AX m (s+1) j (by simpa using h);simp only[aK] at this;simp only[aK,y2,stamps,fS K k,zy,S4,this];congr 1;omega}
omit [DecidableEq κ] in
theorem vx:∀(m:bS κ) (s j:Nat),j<m.length->(stamps s (aK K m)).findIdx? (λ(b:Nat)=>decide ((b:Int)=((s+j:Nat):Int)))=some j
 | [],_,_,h=>by simp at h
 | (k,v)::m,s,0,_=>by simp[aK,stamps,fS K k,List.findIdx?_cons]
 | (k,v)::m,s,j+1,h=>by{have:=vx m (s+1) j (by simpa using h);simp only[aK] at this;have f:¬((s:Int)=((s+(j+1):Nat):Int)):=by{omega};have e:s+1+j=s+(j+1):=by{omega};rw[e] at this;simp only[aK,y2,stamps,fS K k,zy,List.findIdx?_cons,TY f,this];rfl}
theorem Bp:∀(m:bS κ) (k:κ) (v:Value),look m k=some v->jM m k<m.length
 | [],_,_,h=>by cases h
 | (k',v')::m,k,v,h=>by{unfold look at h;unfold jM;split at h;{rename_i e;rw[nw e];simp};{rename_i e;rw[mb e,If];have:=Bp m k v h;omega}}
theorem ky(m:bS κ)(k:κ)(z:Value):look (kP m k z) k=some ((look m k).getD z):=by unfold kP;split;{rename_i h;rw[fR,nw rfl,h];rfl};{rename_i h;cases e:look m k with|none=>{exact absurd e h}|some v=>{rfl}}
theorem pW:∀(m:bS κ) (k:κ) (z:Value),jM (kP m k z) k=jM m k
 | [],k,z=>by simp[kP,look,cy,jM]
 | (k',v')::m,k,z=>by{by_cases e:k=k';{subst e;simp[kP,look,jM]};{have f:=pW m k z;unfold kP at f |-;simp only[look,mb e];split;{rename_i h;rw[nw h] at f;simp only[cy,mb e,jM,f]};{rfl}}}
theorem pE:∀(m:bS κ) (k:κ) (z v:Value),cy (kP m k z) k v=cy m k v
 | [],k,z,v=>by simp[kP,look,cy]
 | (k',v')::m,k,z,v=>by{by_cases e:k=k';{subst e;simp[kP,look,cy]};{have f:=pE m k z v;unfold kP at f |-;simp only[look,mb e];split;{rename_i h;rw[nw h] at f;simp only[cy,mb e,f]};{rfl}}}
variable {n:Nat}{k:bY}{F:aw}{own:bH}{ops rest:List Oper}{o:Oper}{Q:bY->aw->bH->List Rec->Prop}
theorem Ba{α:Type}{l:List α}{p:Nat}{a:α}(h:l[p]?=some a):l.set p a=l:=by apply Sb;intro i;by_cases e:i=p;{subst e;rw[sj (No.1 h).1,h]};{rw[tj (Ne.symm e)]}
theorem WT.mapEntry(hT:aP C T=true)(p q:Nat){tm et:TypeId}{mo ko:Operand}{i:Nat}{m:bS κ}{key:κ}{r:Row}{z:Value}{B B':List (Nat×aC)}{be:bH}{d:Nat}(j:o.op=.mapEntry tm mo ko)(hw:aH ops k o=some true)(g:o.dst=some d)(hn:Nat.blt d n=true)
  (hm:aW C k mo=some (.map (some i))) (hk:aW C k ko=some (K.key key)) (J:own[p]?=some B) (P:B[q]?=some (i,aC.map (aK K m))) (hr:rowOf T tm=some r) (hd:r.d=.map t et) (hz:gq T et=some z)
  (hB:wy B q (i,.map (aK K (kP m key z)))=some B') (ho:jG own p B'=some be)
  (h:WT C n ops rest ((d,.tuple ⟨[(look m key).getD z,.int .i64 (jM m key:Nat)]⟩)::k) F be (λk2 F2 own2 rs=>Q k2 F2 own2 (⟨F,own,F,be,[]⟩::rs))):WT C n ops (o::rest) k F own Q:=by have e1:=gJ _ _ _ _ hB;have e2:=cA _ _ _ _ ho;subst e1;subst e2;have hl:bg (aW C k) o.op=some []:=by{rw[j];rfl};obtain⟨h3,h4⟩:=uj K key m 0;cases f:look m key with|none=>{obtain⟨I,R⟩:=h3 f;refine WT.put (v:=.tuple ⟨[(look m key).getD z,.int .i64 (jM m key:Nat)]⟩) (b':=.map (aK K (kP m key z))) p q J P hw hl (λh0 s0 U=>?_) (by rw[g,aA hn];exact h);rw[j];have e:kP m key z=cy m key z:=by{unfold kP;rw[nw f]};have hlen:(aK K m).length=m.length:=by{unfold aK;rw[sh]};simp only[aQ,hm,hk,dI,dJ hT hr hd,U,de K m,K.ok,I,cT hT hz,e,kj K key z m f,f,R,hlen];rfl}|some v=>{obtain⟨I,R,_⟩:=h4 v f;have aa:=Bp m key v f;have l:=AX K m 0 _ aa;rw[yo] at l I;have e:kP m key z=m:=by{unfold kP;rw[mb (by rw[f];simp)]};have eo:own.set p (B.set q (i,.map (aK K (kP m key z))))=own:=by{rw[e,Ba P,Ba J]};rw[eo] at h;refine WT.still (v:=.tuple ⟨[(look m key).getD z,.int .i64 (jM m key:Nat)]⟩) hw hl (λh0 s0=>?_) (by rw[g,aA hn];exact h);have U:=s0.has J (SL P);rw[j];simp only[aQ,hm,hk,dI,dJ hT hr hd,U,de K m,K.ok,I,R,l,eP,f];rfl}
theorem WT.entryStore(p q:Nat){U:TypeId}{r I J:Operand}{i:Nat}{m:bS κ}{key:κ}{v0 v:Value}{B P:List (Nat×aC)}{be:bH}(f:o.op=.entryStore U r I J)(hw:aH ops k o=some true)(g:o.dst=none)
  (hm:aW C k r=some (.map (some i))) (hs:aW C k I=some (.int .i64 (jM m key:Nat))) (hv:aW C k J=some v) (hp:own[p]?=some B) (hq:B[q]?=some (i,aC.map (aK K m))) (j:look m key=some v0)
  (hB:wy B q (i,.map (aK K (cy m key v)))=some P) (ho:jG own p P=some be)
  (h:WT C n ops rest k F be (λk2 F2 own2 rs=>Q k2 F2 own2 (⟨F,own,F,be,[]⟩::rs))):WT C n ops (o::rest) k F own Q:=by have e1:=gJ _ _ _ _ hB;have e2:=cA _ _ _ _ ho;subst e1;subst e2;obtain⟨h5,h6,h7⟩:=(uj K key m 0).2 v0 j;have l:=Bp m key v0 j;have R:=vx K m 0 _ l;rw[yo] at R;refine WT.put (v:=cl) (b':=.map (aK K (cy m key v))) p q hp hq hw (by rw[f];rfl) (λh0 s0 hb=>?_) (by rw[g];exact h);rw[f];simp only[aQ,hm,hs,hv,dg,hb,R,de K m,h6,jx K,h7];rfl
theorem iC(hT:aP C T=true){J P:TypeId}{R U:Operand}{i:Nat}{m2:bS κ}{key:κ}{r:Row}{z v:Value}(g:o.op=.lookup J R U false)
  (hm:aW C k R=some (.map (some i))) (hk:aW C k U=some (K.key key)) (hr:rowOf T J=some r) (hd:r.d=.map t P) (hz:gq T P=some z) {l:au} (hb:l.get i=some (.map (aK K m2))) (f:(look m2 key).getD z=v) :
  aQ C (aW C k) l o.op=some (.val v l):=by rw[g];rcases fA K key m2 0 with ⟨p,I⟩ | ⟨j,v,p,I,_,_⟩;{rw[p] at f;have f:z=v:=f;simp only[aQ,hm,hk,fC,dJ hT hr hd,ed,hb,de K m2,K.ok,I,cT hT hz,f];rfl};{rw[p] at f;simp only[aQ,hm,hk,fC,dJ hT hr hd,ed,hb,de K m2,K.ok,I,<-f];rfl}
theorem WT.y8(hT:aP C T=true)(p:Nat){J P:TypeId}{R U:Operand}{i:Nat}{m:bS κ}{key:κ}{r:Row}{z:Value}{B:List (Nat×aC)}{d:Nat}(f:o.op=.lookup J R U false)(hw:aH ops k o=some true)(l:o.dst=some d)(hn:Nat.blt d n=true)
  (hm:aW C k R=some (.map (some i))) (hk:aW C k U=some (K.key key)) (hp:own[p]?=some B) (hq:(i,aC.map (aK K m))∈B) (hr:rowOf T J=some r) (hd:r.d=.map t P) (hz:gq T P=some z)
  (h1:WT C n ops rest ((d,(look m key).getD z)::k) F own (λk2 F2 own2 rs=>Q k2 F2 own2 (@Rec.mk F own F own [i] ⟨λj=>aQ C (aW C k) j o.op=some (.val ((look m key).getD z) j)⟩::rs))):WT C n ops (o::rest) k F own Q:=by have hl:bg (aW C k) o.op=some [i]:=by{rw[f];simp only[bg,hm]};refine WT.fW (λj=>aQ C (aW C k) j o.op=some (.val ((look m key).getD z) j)) hl λe h g hs=>⟨(look m key).getD z,?_,λj hb=>?_,by rw[l,aA hn];exact h1⟩;{have I:=iC K hT (o:=o) (v:=(look m key).getD z) f hm hk hr hd hz (hs.has hp hq) rfl;exact⟨0,λN _=>gj g hw I _⟩};{have I:=iC K hT (o:=o) (v:=(look m key).getD z) f hm hk hr hd hz (hs.has hp hq) rfl;have e1:=dY g.eval I;have e2:=dY g.eval hb;unfold jV;rw[f] at e1 e2 |-;dsimp only;rw[e1,e2];exact eP _}
end
end Go.Abs