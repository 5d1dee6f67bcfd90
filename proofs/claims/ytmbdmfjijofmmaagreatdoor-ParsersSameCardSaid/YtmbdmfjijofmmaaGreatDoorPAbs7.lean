/-
  The logic, second part: data in frozen blocks, slices that grow, loops, calls; from contracts to the model.
-/
import Derived.Test.YtmbdmfjijofmmaaGreatDoorPAbs6
import Derived.ChangeSlices
import Derived.ChangeArms
import Derived.WideShapes
/-
 How plain data lies in frozen blocks: cells,structs,slices.
-/
set_option linter.unusedVariables false
namespace Go.Abs
open Go
structure Ty(α:Type) where
 size:Nat
 rel:ar->List Value->α->Prop
 len:∀F l x,rel F l x->l.length=size
 one:∀F l x,rel F l x->l.all Go.Abs.one=true
 mono:∀F G l x,ar.le F G->rel F l x->rel G l x
structure bj{α:Type}(R:Ty α)(F:ar)(a:Option Addr)(n c:Nat)(xs:List α):Prop where
 len:n=xs.length
 cap:c=0\/c=R.size
 zero:c=0->n=0
 nil:a=none->n=0/\c=0
 spot:∀p,a=some p->p.spot=none
 el:∀(j:Nat) (x:α),xs[j]?=some x->∃b off ro cs l,a=some ⟨b,off,none⟩/\F b=some (.cells ro cs)/\cf cs (off+j*R.size) R.size=some l/\R.rel F l x
theorem bj.mono{α:Type}{R:Ty α}{F G:ar}{a:Option Addr}{n c:Nat}{xs:List α}(h:bj R F a n c xs)(hF:ar.le F G):bj R G a n c xs:=
 ⟨h.len,h.cap,h.zero,h.nil,h.spot,λj x hj=>
  let ⟨b,off,ro,cs,l,h1,h2,h3,h4⟩:=h.el j x hj
  ⟨b,off,ro,cs,l,h1,hF _ _ h2,h3,R.mono F G l x hF h4⟩⟩
theorem bj.gz{α:Type}(R:Ty α)(F:ar):bj R F none 0 0 ([]:List α):=
 ⟨rfl,.inl rfl,λ_=>rfl,λ_=>⟨rfl,rfl⟩,λp h=>(by cases h),λj x h=>(by simp at h)⟩
def iF:Ty Int where
 size:=1
 rel:=λ_ l x=>l=[.int .i64 x]
 len:=λ_ _ _ h=>by rw[h];rfl
 one:=λ_ _ _ h=>by rw[h];rfl
 mono:=λ_ _ _ _ _ h=>h
def fv:Ty Bool where
 size:=1
 rel:=λ_ l x=>l=[.bool x]
 len:=λ_ _ _ h=>by rw[h];rfl
 one:=λ_ _ _ h=>by rw[h];rfl
 mono:=λ_ _ _ _ _ h=>h
def xU:Ty Nat where
 size:=1
 rel:=λ_ l x=>l=[.int .u32 x]
 len:=λ_ _ _ h=>by rw[h];rfl
 one:=λ_ _ _ h=>by rw[h];rfl
 mono:=λ_ _ _ _ _ h=>h
def cg{α:Type}(R:Ty α):Ty (List α) where
 size:=1
 rel:=λF l xs=>∃a n c,l=[.slice a n c]/\bj R F a n c xs
 len:=λ_ _ _ h=>by obtain⟨a,n,c,rfl,_⟩:=h;rfl
 one:=λ_ _ _ h=>by obtain⟨a,n,c,rfl,_⟩:=h;rfl
 mono:=λ_ _ _ _ hF h=>by obtain⟨a,n,c,e,h⟩:=h;exact⟨a,n,c,e,h.mono hF⟩
theorem Dr{cs:List Value}{off n fo m:Nat}{l r:List Value}(h:cf cs off n=some l)(h2:cf l fo m=some r):cf cs (off+fo) m=some r:=by
 obtain⟨h4,h3⟩:=eV h;obtain⟨h6,h5⟩:=eV h2;have hr:(cs.drop (off+fo)).take m=r:=by
  have hm:fo+m<=n\/m=0:=by
   have:(l.drop fo).take m=r:=h6.symm;have h7:r.length<=l.length-fo:=by rw[h6];simp;omega
   omega
  rcases hm with hm | hm
  ·rw[h6,h4,List.drop_take,List.take_take,UQ,show min m (n-fo)=m by omega]
  ·subst hm;rw[h6];simp
 unfold cf;simp only[hr,h5];simp
theorem Cd{C:Ctx}{cs l:List Value}{off n fo t:Nat}{v:Value}(h:cf cs off n=some l)(q:eX C l t fo=some v):eX C cs t (off+fo)=some v:=by
 unfold eX at q ⊢;cases hu:C.gZ t with
 | none=>rw[hu] at q;cases q
 | some d=>
  rw[hu] at q;simp only at q ⊢;cases hg:ue d with
  | true=>
   rw[hg] at q;simp only[RH] at q ⊢;split at q
   ·rename_i m hm;cases hl2:cf l fo m with
    | none=>rw[hl2] at q;cases q
    | some l2=>
     rw[hl2] at q;rw[Dr h hl2];exact q
   ·cases q
  | false=>
   rw[hg] at q;simp only[RO] at q ⊢;obtain⟨h4,h3⟩:=eV h;rw[h4] at q;rw[<-q,Sg];have hlt:fo<n:=by
    rcases R2 fo n with h | h
    ·exact h
    ·rw[Sg,AT (by omega)] at q;cases q
   rw[By hlt,Se]
section
variable {C:Ctx}{T:RT}{n:Nat}{k:bC}{F:ar}{own:bh}{ops rest:List Oper}{o:Oper}{Q:bC->ar->bh->List Rec->Prop}{α:Type}{R:Ty α}
theorem WT.idx(hT:aS C T=true){t e:Nat}{r:Row}{xo io:Operand}{a:Option Addr}{m c:Nat}{xs:List α}{x:α}{kd:IntKind}{j:Int}(hxs:bj R F a m c xs)(hop:o.op=.indexAddr t xo io)(hw:aF ops k o=some true){dst:Nat}(hdst:o.dst=some dst)(hn:Nat.blt dst n=true)
  (hx:aW C k xo=some (.slice a m c)) (hi:aW C k io=some (.int kd j)) (hr:rowOf T t=some r) (hd:r.d=.slice e) (hs:fL T e=some R.size) (h0:0<=j) (hj:xs[j.toNat]?=some x)
  (h:∀b off ro cs l,F b=some (.cells ro cs)->cf cs off R.size=some l->R.rel F l x->
   WT C n ops rest ((dst,(.pointer (some ⟨b,off,none⟩)))::k) F own (λk2 F2 own2 rs=>Q k2 F2 own2 (⟨F,own,F,own,[]⟩::rs))):WT C n ops (o::rest) k F own Q:=by
 have hput:∀v,((dst,v)::k:bC)=cu n k o.dst v:=λv=>by rw[hdst,aA hn]
 simp only[hput] at h;obtain⟨b,off,ro,cs,l,rfl,h2,h3,h4⟩:=hxs.el _ _ hj;refine WT.still hw (by rw[hop];rfl) (λh0' _=>?_) (h b (off+j.toNat*R.size) ro cs l h2 h3 h4);rw[hop];have hlt:j.toNat<xs.length:=(R9.1 hj).1;have hm:=hxs.len;simp only[aN,hx,hi,iU,bK hT hr hd,cq hT hs];rw[By ⟨h0,by omega⟩];rfl
theorem WT.Ms(hT:aS C T=true){t:TypeId}{ao:Operand}{b off fo m:Nat}{ro:Bool}{cs l:List Value}{v:Value}(hb:F b=some (.cells ro cs))(hp:cf cs off m=some l)(hop:o.op=.load t ao)(hw:aF ops k o=some true){dst:Nat}(hdst:o.dst=some dst)(hn:Nat.blt dst n=true)
  (ha:aW C k ao=some (.pointer (some ⟨b,off+fo,none⟩))) (hr:sA T l t fo=some v)
  (h:WT C n ops rest ((dst,v)::k) F own (λk2 F2 own2 rs=>Q k2 F2 own2 (⟨F,own,F,own,[b]⟩::rs))):WT C n ops (o::rest) k F own Q:=by
 have hput:∀v,((dst,v)::k:bC)=cu n k o.dst v:=λv=>by rw[hdst,aA hn]
 simp only[hput] at h;exact WT.ve hop hw ha hb (Cd hp (bO hT hr)) h
theorem bj.slice{a:Option Addr}{m c:Nat}{xs:List α}(hxs:bj R F a m c xs){lo hi:Nat}(hlo:lo<=hi)(hhi:hi<=m)(hT:aS C T=true){t e:Nat}{r:Row}(hr:rowOf T t=some r)(hd:r.d=.slice e)(hs:fL T e=some R.size)
  (vlo vhi:Option Value) (h1:db vlo 0=some lo) (h2:db vhi m=some hi) :
  ∃a' c',(∀h,kT C h t (.slice a m c) vlo vhi none=some (.slice a' (hi-lo) c'))/\bj R F a' (hi-lo) c' ((xs.take hi).drop lo):=by
 have hn:=hxs.len;cases a with
 | none=>
  obtain⟨rfl,rfl⟩:=hxs.nil rfl;have:hi=0:=by omega
  subst this;have:lo=0:=by omega
  subst this;refine⟨none,0,λh=>?_,?_⟩
  ·have h3:db none 0=some 0:=rfl;simp only[kT,bK hT hr hd,cq hT hs,h1,h2,h3];rfl
  ·have:xs=[]:=SE (by omega);subst this;exact bj.gz R F
 | some p=>
  obtain⟨b,off,sp⟩:=p;have:sp=none:=hxs.spot _ rfl;subst this;refine⟨some ⟨b,off+lo*R.size,none⟩,c,λh=>?_,?_⟩
  ·have e1:Nat.ble lo hi=true:=Sf hlo;have e2:Nat.ble hi m=true:=Sf hhi;have e3:(c==0||c==R.size)=true:=by rcases hxs.cap with rfl | rfl<;>simp
   simp only[kT,bK hT hr hd,cq hT hs,h1,h2,e1,e2,e3,TJ,RH]
  ·refine⟨by simp;omega,hxs.cap,λh0=>(by have:=hxs.zero h0;omega),λh0=>(by cases h0),λp hp=>(by cases hp;rfl),λj x hj=>?_⟩;rw[Se,Sg] at hj;split at hj
   ·obtain⟨b',off',ro,cs,l,g1,g2,g3,g4⟩:=hxs.el _ _ hj;cases g1;refine⟨b,off+lo*R.size,ro,cs,l,rfl,g2,?_,g4⟩;rw[show off+lo*R.size+j*R.size=off+(lo+j)*R.size by rw[Ss];omega];exact g3
   ·cases hj
theorem WT.slice{t:TypeId}{xo:Operand}{lo hi:Option Operand}{x v:Value}{vlo vhi:Option Value}{l:List Nat}(hop:o.op=.slice t xo lo hi none)(hw:aF ops k o=some true){dst:Nat}(hdst:o.dst=some dst)(hn:Nat.blt dst n=true)(hl:aX (aW C k) o.op=some l)(hx:aW C k xo=some x)
  (h1:lH (aW C k) lo=some vlo) (h2:lH (aW C k) hi=some vhi) (hs:∀h,kT C h t x vlo vhi none=some v)
  (h:WT C n ops rest ((dst,v)::k) F own (λk2 F2 own2 rs=>Q k2 F2 own2 (⟨F,own,F,own,l⟩::rs))):WT C n ops (o::rest) k F own Q:=by
 have hput:∀v,((dst,v)::k:bC)=cu n k o.dst v:=λv=>by rw[hdst,aA hn]
 simp only[hput] at h;refine WT.still hw hl (λh0 _=>?_) h;rw[hop];have h3:lH (aW C k) none=some none:=rfl;simp only[aN,hx,h1,h2,h3,hs h0];rfl
theorem WT.Ix{f:FuncId}{fn:Func}{as:Array Operand}{ts:Array TypeId}{args:List Value}{oin fr:bh}{dn:ar->Value->bh->Prop}(hf:C.func f=some fn)(hb:fn.body.isSome=true)(hop:o.op=.call ⟨.value (.func f),as,ts⟩)
  (hw:aF ops k o=some true) {dst:Nat} (hdst:o.dst=some dst) (hn:Nat.blt dst n=true) (hv:dI (aW C k) as.toList=some args) (spec:Spec C f args F oin dn) (hperm:own.Perm (oin++fr))
  (h:∀F' v oout,ar.le F F'->dn F' v oout->WT C n ops rest ((dst,v)::k) F' (oout++fr) (λk2 F2 own2 rs=>Q k2 F2 own2 (⟨F,own,F',oout++fr,[]⟩::rs))) :
  WT C n ops (o::rest) k F own Q:=by
 have hput:∀v,((dst,v)::k:bC)=cu n k o.dst v:=λv=>by rw[hdst,aA hn]
 simp only[hput] at h;refine WT.call hw (by rw[hop];rfl) (λh0=>?_) spec hperm h;rw[hop];simp only[aN,aW,hv,lD,hf,hb,RH];simp
end
end Go.Abs
/-
 Slices that grow: a slot of one's own holds what has been appended.
-/
set_option linter.unusedVariables false
namespace Go.Abs
open Go
inductive aH{α:Type}(R:Ty α)(F:ar):List Value->List α->Prop
 | nil:aH R F [] []
 | cons {l cs:List Value} {x:α} {xs:List α}:R.rel F l x->aH R F cs xs->aH R F (l++cs) (x::xs)
section
variable {α:Type}{R:Ty α}{F G:ar}
theorem aH.len{cs:List Value}{xs:List α}(h:aH R F cs xs):cs.length=xs.length*R.size:=by
 induction h with
 | nil=>simp
 | cons h1 _ ih=>simp[ih,R.len _ _ _ h1,Ss];omega
theorem aH.one{cs:List Value}{xs:List α}(h:aH R F cs xs):cs.all Go.Abs.one=true:=by
 induction h with
 | nil=>rfl
 | cons h1 _ ih=>rw[List.all_append,ih,R.one _ _ _ h1];rfl
theorem aH.mono{cs:List Value}{xs:List α}(h:aH R F cs xs)(hF:ar.le F G):aH R G cs xs:=by
 induction h with
 | nil=>exact .nil
 | cons h1 _ ih=>exact .cons (R.mono _ _ _ _ hF h1) ih
theorem aH.append{cs ds:List Value}{xs ys:List α}(h:aH R F cs xs)(h2:aH R F ds ys):aH R F (cs++ds) (xs++ys):=by
 induction h with
 | nil=>exact h2
 | cons h1 _ ih=>rw[SL];exact .cons h1 ih
theorem aH.single{l:List Value}{x:α}(h:R.rel F l x):aH R F l [x]:=by
 have:=aH.cons h (aH.nil (R:=R) (F:=F));simpa using this
theorem aH.at{cs:List Value}{xs:List α}(h:aH R F cs xs):∀(j:Nat) (x:α),xs[j]?=some x->∃l,cf cs (j*R.size) R.size=some l/\R.rel F l x:=by
 induction h with
 | nil=>intro j x h;simp at h
 | cons h1 _ ih=>
  rename_i l cs y ys _;intro j x hj;have hl:=R.len _ _ _ h1;cases j with
  | zero=>
   simp at hj;subst hj;refine⟨l,?_,h1⟩;unfold cf;simp only[UN,Ux];rw[<-hl,U2]
   ·simp
   ·rfl
  | succ j=>
   obtain⟨l2,h2,h3⟩:=ih j x (by simpa using hj);refine⟨l2,?_,h3⟩;unfold cf at h2 ⊢;have:(l++cs).drop ((j+1)*R.size)=cs.drop (j*R.size):=by
    rw[show (j+1)*R.size=l.length+j*R.size by rw[hl,Ss];omega,<-UQ,List.drop_left]
   rw[this];exact h2
structure dR(R:Ty α)(F:ar)(a:Option Addr)(n c:Nat)(B:List (Nat×aE))(xs:List α):Prop where
 len:n=xs.length
 at_:(xs=[]/\a=none/\c=0/\B=[])\/∃i cs,a=some ⟨i,0,none⟩/\c=R.size/\B=[(i,.cells false cs)]/\aH R F cs xs/\0<R.size
theorem dR.gz(R:Ty α)(F:ar):dR R F none 0 0 [] ([]:List α):=⟨rfl,.inl ⟨rfl,rfl,rfl,rfl⟩⟩
theorem dR.mono{a:Option Addr}{n c:Nat}{B:List (Nat×aE)}{xs:List α}(h:dR R F a n c B xs)(hF:ar.le F G):dR R G a n c B xs:=
 ⟨h.len,h.at_.imp id λ⟨i,cs,h1,h2,h3,h4,h5⟩=>⟨i,cs,h1,h2,h3,h4.mono hF,h5⟩⟩
theorem dR.arr{a:Option Addr}{n c:Nat}{B:List (Nat×aE)}{xs:List α}(h:dR R F a n c B xs)(hG:ar.le F G)(hB:∀i b,(i,b)∈B->G i=some b):bj R G a n c xs:=by
 rcases h.at_ with ⟨rfl,rfl,rfl,rfl⟩ | ⟨i,cs,rfl,rfl,rfl,h4,h5⟩
 ·have:=h.len;simp at this;subst this;exact bj.gz R G
 ·refine⟨h.len,.inr rfl,λh0=>by omega,λh0=>(by cases h0),λp hp=>(by cases hp;rfl),λj x hj=>?_⟩;obtain⟨l,h6,h7⟩:=(h4.mono hG).at j x hj;exact⟨i,0,false,cs,l,rfl,hB i _ (RR ..),by rw[RY];exact h6,h7⟩
end
section
variable {C:Ctx}{T:RT}{n:Nat}{k:bC}{F:ar}{own:bh}{ops rest:List Oper}{o:Oper}{Q:bC->ar->bh->List Rec->Prop}{α:Type}{R:Ty α}
def nk(T:RT)(t:Nat):Option Nat:=match rowOf T t with | some r=>some r.bytes | none=>none
theorem gn(hT:aS C T=true){t m:Nat}(q:nk T t=some m):C.bytes t=some m:=by
 unfold nk at q;split at q
 ·rename_i r hr;cases q;exact(dG hT hr).2.2.1
 ·cases q
theorem WT.append(hT:aS C T=true)(p:Nat){B:List (Nat×aE)}{a:Option Addr}{m c d by_:Nat}{xs ys:List α}{ds:List Value}{t e:Nat}{ts:List TypeId}{r:Row}{z x:Value}{xo so:Operand}
  (hb:dR R F a m c B xs) (hp:own[p]?=some B) (hop:o.op=.call ⟨.builtin .append,⟨[so,xo]⟩,⟨t::ts⟩⟩) (hw:aF ops k o=some true) {dst:Nat} (hdst:o.dst=some dst) (hn:Nat.blt dst n=true)
  (hs:aW C k so=some (.slice a m c)) (hx:aW C k xo=some x) (hr:rowOf T t=some r) (hd:r.d=.slice e) (hsz:fL T e=some R.size) (hz:jv T e=some z) (hby:nk T e=some by_)
  (hnew:∀h,St F own h->kl C h e R.size ts.head? x=some (d,ds)) (hds:aH R F ds ys) (hlen:d=ys.length) (hpos:0<d/\0<R.size/\0<by_) (hroom:(m+d)*by_<=140737488355328)
  (h:∀a' c' B',dR R F a' (m+d) c' B' (xs++ys)->WT C n ops rest ((dst,(.slice a' (m+d) c'))::k) F (own.set p B') (λk2 F2 own2 rs=>Q k2 F2 own2 (⟨F,own,F,own.set p B',[]⟩::rs))) :
  WT C n ops (o::rest) k F own Q:=by
 have hput:∀v,((dst,v)::k:bC)=cu n k o.dst v:=λv=>by rw[hdst,aA hn]
 simp only[hput] at h;have hl:aX (aW C k) o.op=some []:=by rw[hop];rfl
 have hv:dI (aW C k) [so,xo]=some [.slice a m c,x]:=by simp[dI,hs,hx]
 have hcond:∀ln,ln=m->(!(ds.length==d*R.size&&ds.all one&&Nat.blt 0 R.size&&Nat.blt 0 by_&&Nat.ble ((ln+d)*by_) 140737488355328))=false:=by
  intro ln hln;subst hln;have h1:(ds.length==d*R.size)=true:=by rw[hds.len,hlen];simp
  have h2:Nat.blt 0 R.size=true:=Sf hpos.2.1;have h3:Nat.blt 0 by_=true:=Sf hpos.2.2;have h4:Nat.ble ((ln+d)*by_) 140737488355328=true:=Sf hroom;rw[h1,h2,h3,h4,hds.one];rfl
 have hd0:(d==0)=false:=by have:=hpos.1;cases d with | zero=>omega | succ d=>rfl
 have hlen':=hb.len;rcases hb.at_ with ⟨rfl,rfl,rfl,rfl⟩ | ⟨i,cs,rfl,rfl,rfl,h4,h5⟩
 ·simp at hlen';subst hlen';refine WT.fill (mk:=λi=>.slice (some ⟨i,0,none⟩) (0+d) R.size) (b:=.cells false ds) p hp hw hl (λh0 s0=>?_) (λi hi=>h _ _ _ ⟨by simp;exact hlen,.inr ⟨i,ds,rfl,rfl,rfl,by simpa using hds,hpos.2.1⟩⟩);rw[hop];simp only[aN,hv,bR,gp,bK hT hr hd,cq hT hsz,du hT hz,gn hT hby,hnew h0 s0,hcond 0 rfl,hd0,RO];simp
 ·refine WT.move (mk:=λi=>.slice (some ⟨i,0,none⟩) (m+d) R.size) (b:=.cells false cs) (b':=.cells false (cs++ds)) p hp hw hl (λh0 s0 hg=>?_) (λj hj=>h _ _ _ ⟨by simp;omega,.inr ⟨j,cs++ds,rfl,rfl,rfl,h4.append hds,h5⟩⟩);rw[hop];have hc0:(R.size==0)=false:=by simp;omega
  have hcc:(!(R.size==R.size))=false:=by simp
  have hpart:cf cs 0 (m*R.size)=some cs:=by
   unfold cf;have:cs.length=m*R.size:=by rw[h4.len,hlen']
   simp[<-this]
  simp only[aN,hv,bR,gp,bK hT hr hd,cq hT hsz,du hT hz,gn hT hby,hnew h0 s0,hcond m rfl,hd0,RO,hc0,hcc,hg,hpart];rfl
theorem WT.buildSlice(hT:aS C T=true){t e len sz:Nat}{ps:Array (Nat×Operand)}{vs:List (Nat×Value)}{r:Row}{z:Value}{cs:List Value}(hop:o.op=.buildSlice t len ps)(hw:aF ops k o=some true){dst:Nat}(hdst:o.dst=some dst)(hn:Nat.blt dst n=true)
  (hps:eN (aW C k) ps.toList=some vs) (hr:rowOf T t=some r) (hd:r.d=.slice e) (hsz:fL T e=some sz) (hz:jv T e=some z) (hok:(Nat.ble (len*sz) 16777216&&Nat.blt 0 sz)=true)
  (hfill:lp (λi=>some (i*sz,sz)) (c7 z.cells.toList len) vs=some cs)
  (h:∀i,F i=none->WT C n ops rest ((dst,(.slice (some ⟨i,0,none⟩) len (bif len==0 then 0 else sz)))::k) F ([(i,.cells false cs)]::own) (λk2 F2 own2 rs=>Q k2 F2 own2 (⟨F,own,F,[(i,.cells false cs)]::own,[]⟩::rs))) :
  WT C n ops (o::rest) k F own Q:=by
 have hput:∀v,((dst,v)::k:bC)=cu n k o.dst v:=λv=>by rw[hdst,aA hn]
 simp only[hput] at h;refine WT.new (mk:=λi=>.slice (some ⟨i,0,none⟩) len (bif len==0 then 0 else sz)) hw (by rw[hop];rfl) (λh0 _=>?_) h;rw[hop];simp only[aN,hps,gV,bK hT hr hd,cq hT hsz,du hT hz,hok,RH,hfill];rfl
theorem bw(hT:aS C T=true){h:aq}(s:St F own h)(q:Nat){i:Nat}{ro:Bool}{cs:List Value}{e sz len c t e':Nat}{r:Row}(hq:own[q]?=some [(i,.cells ro cs)])(hr:rowOf T t=some r)(hd:r.d=.slice e')
  (hl:cs.length=len*sz):kl C h e sz (some t) (.slice (some ⟨i,0,none⟩) len c)=some (len,cs):=by
 have hb:h.get i=some (.cells ro cs):=s.has hq (RR ..);have hpart:cf cs 0 (len*sz)=some cs:=by unfold cf;simp[<-hl]
 by_cases hz:len=0
 ·subst hz;have:cs=[]:=SE (by omega);subst this;simp[kl,bK hT hr hd,eT,jA,iE]
 ·simp only[kl,bK hT hr hd,eT,jA,iE,jS,hb,hpart,show (len==0)=false by simpa using hz];rfl
theorem bI.tJ{d:Nat}{v:Value}(hv:lk k d=some v):bI ((d,v)::k) k:=by
 intro j u q;simp only[lk] at q;cases hb:Nat.beq d j with
 | true=>
  rw[hb] at q;have:=R8 hb;subst this;cases q;exact hv
 | false=>rw[hb] at q;exact q
theorem WT.split(d:Nat){v:Bool}(hv:lk k d=some (.bool v))(h1:v=true->WT C n ops rest ((d,.bool true)::k) F own Q)(h2:v=false->WT C n ops rest ((d,.bool false)::k) F own Q):WT C n ops rest k F own Q:=by
 cases v with
 | true=>exact WT.weaken (bI.tJ hv) (h1 rfl)
 | false=>exact WT.weaken (bI.tJ hv) (h2 rfl)
theorem AW.split{c:Code}{A:Ex->bC->ar->bh->Prop}(d:Nat){v:Bool}(hv:lk k d=some (.bool v))(h1:v=true->AW C n c ((d,.bool true)::k) F own A)(h2:v=false->AW C n c ((d,.bool false)::k) F own A):AW C n c k F own A:=by
 cases v with
 | true=>exact AW.weaken (bI.tJ hv) (h1 rfl)
 | false=>exact AW.weaken (bI.tJ hv) (h2 rfl)
end
end Go.Abs
/-
 Loops: what changes in a round;loops over a range.
-/
set_option linter.unusedVariables false
namespace Go.Abs
open Go
theorem Im:∀(k:bC) (i:Nat) (v:Value),lk k i=some v->i∈k.map (·.1)
 | [],_,_,q=>by cases q
 | (j,u)::k,i,v,q=>by
  simp only[lk] at q;cases hb:Nat.beq j i with
  | true=>rw[R8 hb];simp
  | false=>rw[hb] at q;exact If _ (Im k i v q)
theorem bI.of_map{k2 k:bC}(h:(k2.map (·.1)).map (lk k)=(k2.map (·.1)).map (lk k2)):bI k2 k:=by
 intro i v q;have hm:=Im k2 i v q;have:∀(l:List Nat),l.map (lk k)=l.map (lk k2)->∀i∈l,lk k i=lk k2 i:=by
  intro l
  induction l with
  | nil=>intro _ i hi;cases hi
  | cons a l ih=>
   intro he i hi;simp only[JN,R1] at he;rcases R0.1 hi with rfl | hi
   ·exact he.1
   ·exact ih he.2 i hi
 rw[this _ h i hm,q]
theorem bI.refl(k:bC):bI k k:=λ_ _ q=>q
theorem bI.trans{a b c:bC}(h1:bI a b)(h2:bI b c):bI a c:=λi v q=>h2 i v (h1 i v q)
def ah(own2 own:bh):Prop:=∃l:List (Nat×aE),l.Sublist own.flatten/\l.Perm own2.flatten
theorem ah.refl(own:bh):ah own own:=⟨_,Sk _,NO _⟩
theorem ah.sub{own2 own:bh}(h:own2.Sublist own):ah own2 own:=⟨_,uG h,NO _⟩
theorem ah.perm{own2 own:bh}(h:own.Perm own2):ah own2 own:=⟨_,Sk _,Ub h⟩
theorem ah.flat{own2 own:bh}(h:own.flatten.Perm own2.flatten):ah own2 own:=⟨_,Sk _,h⟩
theorem AZ{α:Type}{l m m':List α}(h:l.Sublist m)(hp:m.Perm m'):∃l',l'.Sublist m'/\l.Perm l':=by
 induction hp generalizing l with
 | nil=>exact⟨l,h,NO _⟩
 | cons a _ ih=>
  cases h with
  | cons _ h=>
   obtain⟨l',h1,h2⟩:=ih h;exact⟨l',h1.cons a,h2⟩
  | cons_cons _ h=>
   obtain⟨l',h1,h2⟩:=ih h;exact⟨a::l',h1.cons_cons a,h2.cons a⟩
 | swap a b m=>
  cases h with
  | cons _ h=>
   cases h with
   | cons _ h=>exact⟨l,(h.cons b).cons a,NO _⟩
   | cons_cons _ h=>exact⟨_,(h.cons b).cons_cons a,NO _⟩
  | cons_cons _ h=>
   cases h with
   | cons _ h=>exact⟨_,(h.cons_cons b).cons a,NO _⟩
   | cons_cons _ h=>exact⟨_,(h.cons_cons b).cons_cons a,List.Perm.swap ..⟩
 | trans _ _ ih1 ih2=>
  obtain⟨l1,h1,h2⟩:=ih1 h;obtain⟨l2,h3,h4⟩:=ih2 h1;exact⟨l2,h3,h2.trans h4⟩
theorem ah.trans{a b c:bh}(h1:ah a b)(h2:ah b c):ah a c:=by
 obtain⟨l,h3,h4⟩:=h1;obtain⟨m,h5,h6⟩:=h2;obtain⟨l',h7,h8⟩:=AZ h3 h6.symm;exact⟨l',h7.trans h5,h8.symm.trans h4⟩
theorem ah.cons{a b:bh}(B:List (Nat×aE))(h:ah a b):ah (B::a) (B::b):=by
 obtain⟨l,h1,h2⟩:=h;exact⟨B++l,by simp only[S8];exact(Sk B).append h1,by simp only[S8];exact h2.append_left B⟩
theorem ah.skip{a b:bh}(B:List (Nat×aE))(h:ah a b):ah a (B::b):=h.trans (ah.sub (Tf ..))
theorem St.le{F:ar}{own own2:bh}{h:aq}(s:St F own h)(ho:ah own2 own):St F own2 h:=by
 obtain⟨l,h1,h2⟩:=ho;exact jJ.perm (jJ.sub s h1) h2
theorem St.oZ{F G:ar}{own:bh}{h:aq}(s:St G own h)(hF:ar.le F G):St F own h:=
 ⟨λi b q=>s.uz i b (hF i b q),λp hp=>jJ.has s p hp,λp hp=>(by
  have:=jJ.apart s p hp;cases hf:F p.1 with
  | none=>rfl
  | some b=>rw[hF _ _ hf] at this;cases this),jJ.nodup s,s.wf⟩
section
variable {C:Ctx}{n:Nat}{k:bC}{F:ar}{own:bh}{A:Ex->bC->ar->bh->Prop}
theorem AW.le{c:Code}{own2:bh}(ho:ah own2 own)(h:AW C n c k F own2 A):AW C n c k F own A:=λe h0 hk' hs=>h e h0 hk' (hs.le ho)
theorem WT.le{ops rest:List Oper}{Q:bC->ar->bh->List Rec->Prop}{own2:bh}(ho:ah own2 own)(h:WT C n ops rest k F own2 Q):WT C n ops rest k F own Q:=λe h0 hk' hs=>h e h0 hk' (hs.le ho)
theorem AW.cm{S:Type}(chg:S->bC)(ow:S->bh)(P:S->ar->Prop)(m:S->Nat){c:Code}(s0:S)
  (hk:bI (chg s0++k) k) (ho:ah (ow s0) own) (hP:P s0 F)
  (step:∀s F',ar.le F F'->P s F'->AW C n c (chg s++k) F' (ow s) (m7 (λk' F'' aB=>∃s',m s'<m s/\bI (chg s'++k) k'/\ah (ow s') aB/\P s' F'') A)) :
  AW C n (.loop c) k F own A:=by
 have main:AW C n (.loop c) (chg s0++k) F (ow s0) A:=by
  refine AW.loop (λs k' F' aB=>k'=chg s++k/\aB=ow s/\ar.le F F'/\P s F') m ?_ s0 _ _ _ ⟨rfl,rfl,ar.le.refl F,hP⟩;rintro s _ F' _ ⟨rfl,rfl,hF,hp⟩;intro e h0 hk1 hs1;obtain⟨x,e1,h1,k1,F1,own1,h2,h3,h4,h5,h6⟩:=step s F' hF hp e h0 hk1 hs1;cases x with
  | normal=>
   obtain⟨s',q1,q2,q3,q4⟩:=h6;exact⟨.normal,e1,h1,k1,F1,ow s',h2,h3,h4,h5.le q3,s',chg s'++k,ow s',q1,q2,Sk _,rfl,rfl,hF.trans h4,q4⟩
  | exit id=>exact⟨.exit id,e1,h1,k1,F1,own1,h2,h3,h4,h5,h6⟩
  | ret=>exact⟨.ret,e1,h1,k1,F1,own1,h2,h3,h4,h5,h6⟩
 exact AW.weaken hk (AW.le ho main)
def AA{S:Type}(bid:Nat)(ti j:Nat)(chg:S->bC)(k:bC)(ow:S->bh)(P:Nat->S->ar->Prop)(A:Ex->bC->ar->bh->Prop):Ex->bC->ar->bh->Prop
 | .normal,k',F',aB=>∃s',bI ((ti,.int .i64 j)::(chg s'++k)) k'/\ah (ow s') aB/\P (j+1) s' F'
 | .exit i,k',F',aB=>A (bif i==bid then .normal else .exit i) k' F' aB
 | .ret,k',F',aB=>A .ret k' F' aB
theorem AW.range{S:Type}(chg:S->bC)(ow:S->bh)(P:Nat->S->ar->Prop)(m:Nat)(s0:S)
  {bid bid' r1 r2 ti tl tc tj t1 t2 t3 t4:Nat} {body:Code} {o1 o2 o3:Oper}
  (ho1:o1.op=.binOp .lss t1 (.tmp ti) (.tmp tl) t2) (hd1:o1.dst=some tc) (hg1:o1.guard=none)
  (ho2:o2.op=.binOp .add t3 (.tmp ti) (.const (.int .i64 1)) t4) (hd2:o2.dst=some tj) (hg2:o2.guard=none)
  (ho3:o3.op=.move (.tmp tj)) (hd3:o3.dst=some ti) (hg3:o3.guard=none)
  (hm:m<=9223372036854775807) (hn:(Nat.blt ti n&&Nat.blt tc n&&Nat.blt tj n)=true)
  (hne:(Nat.beq ti tj||Nat.beq tc ti||Nat.beq tl ti)=false)
  (hl:∀s,lk (chg s++k) tl=some (.int .i64 m)) (hj:∀s,lk (chg s++k) tj=none)
  (hk:bI ((ti,.int .i64 0)::(chg s0++k)) k) (ho:ah (ow s0) own) (hP:P 0 s0 F)
  (step:∀j s F',ar.le F F'->j<m->P j s F'->AW C n body ((tc,.bool true)::(ti,.int .i64 j)::(chg s++k)) F' (ow s) (fJ bid' (AA bid ti j chg k ow P A)))
  (done:∀s F',ar.le F F'->P m s F'->A .normal ((tc,.bool false)::(ti,.int .i64 m)::(chg s++k)) F' (ow s)) :
  AW C n (.block bid (.loop (.seq (.region r1 ⟨[o1]⟩ false) (.seq (.cond (.tmp tc) .skip (.exit bid)) (.seq (.block bid' body) (.region r2 ⟨[o2,o3]⟩ false)))))) k F own A:=by
 simp only[IN] at hn;simp only[TU] at hne;obtain⟨⟨hn1,hn2⟩,hn3⟩:=hn;obtain⟨⟨hne1,hne2⟩,hne3⟩:=hne;have put1:∀k v,cu n k (some ti) v=(ti,v)::k:=λk v=>by simp only[cu,hn1,RH]
 have put2:∀k v,cu n k (some tc) v=(tc,v)::k:=λk v=>by simp only[cu,hn2,RH]
 have put3:∀k v,cu n k (some tj) v=(tj,v)::k:=λk v=>by simp only[cu,hn3,RH]
 have lt_i:Nat.beq ti ti=true:=Tx ti;have lt_c:Nat.beq tc tc=true:=Tx tc;have lt_j:Nat.beq tj tj=true:=Tx tj;have hne3':Nat.beq ti tl=false:=by
  cases h:Nat.beq ti tl with
  | false=>rfl
  | true=>rw[R8 h,Tx] at hne3;cases hne3
 refine AW.block ?_;let st:Nat×S->bC:=λp=>(ti,.int .i64 p.1)::(chg p.2++k);have main:AW C n (.loop (.seq (.region r1 ⟨[o1]⟩ false) (.seq (.cond (.tmp tc) .skip (.exit bid)) (.seq (.block bid' body) (.region r2 ⟨[o2,o3]⟩ false))))) ((ti,.int .i64 0)::(chg s0++k)) F (ow s0) (fJ bid A):=by
  refine AW.loop (λ(p:Nat×S) k' F' aB=>k'=st p/\aB=ow p.2/\ar.le F F'/\p.1<=m/\P p.1 p.2 F') (λp=>m-p.1) ?_ (0,s0) _ _ _ ⟨rfl,rfl,ar.le.refl F,R6 _,hP⟩;rintro⟨j,s⟩ _ F' _ ⟨rfl,rfl,hF,hjm,hp⟩;simp only at hjm hp;refine AW.seq (AW.dp ?_);refine WT.still (v:=.bool (decide ((j:Int)<m))) (l:=[]) (by simp only[aF,hg1]) ?_ (λh0 _=>?_) ?_
  ·rw[ho1];simp only[aX,aW,st,lk,lt_i,RH,hne3',RO,hl];rfl
  ·rw[ho1];simp only[aN,aW,st,lk,lt_i,RH,hne3',RO,hl,kW,SU,dj];rfl
  refine WT.nil ?_;show AW C n _ _ _ _ _;rw[hd1,put2];refine AW.seq (AW.cond (v:=decide ((j:Int)<m)) (by simp only[aW,lk,lt_c,RH]) (λhc=>?_) (λhc=>?_))
  ·have hc:j<m:=by have:=S4 hc;omega
   refine AW.skip ?_;show AW C n _ _ _ _ _;refine AW.seq (AW.block ?_);have hd:decide ((j:Int)<m)=true:=by simp;omega
   rw[hd];refine AW.mono (step j s F' hF hc hp) ?_;intro x k' F'' aB hF'' hx;have fin:AA bid ti j chg k ow P A .normal k' F'' aB->AW C n (.region r2 ⟨[o2,o3]⟩ false) k' F'' aB (m7 (λk' F' aB=>∃(j_1:Nat×S),∃k2 own2,m-j_1.1<m-j/\bI k2 k'/\own2.Sublist aB/\k2=st j_1/\own2=ow j_1.2/\ar.le F F'/\j_1.1<=m/\P j_1.1 j_1.2 F') (fJ bid A)):=by
    rintro⟨s',q1,q2,q3⟩;refine AW.weaken q1 (AW.le q2 (AW.dp ?_));refine WT.add (x:=j) (y:=1) ho2 (by simp only[aF,hg2]) (by simp only[aW,lk,lt_i,RH]) (by simp only[aW,plain,RH]) (by omega) ?_;rw[hd2,put3];refine WT.still (v:=.int .i64 (j+1)) (l:=[]) (by simp only[aF,hg3]) ?_ (λh0 _=>?_) ?_
    ·rw[ho3];rfl
    ·rw[ho3];simp only[aN,aW,lk,lt_j,RH];rfl
    rw[hd3,put1];refine WT.nil ?_;refine⟨(j+1,s'),st (j+1,s'),ow s',by simp only;omega,?_,Sk _,rfl,rfl,hF.trans hF'',by simp only;omega,q3⟩;intro i v q;simp only[st,lk] at q ⊢;cases hb:Nat.beq ti i with
    | true=>rw[hb] at q;simpa using q
    | false=>
     rw[hb] at q;simp only[RO] at q ⊢;cases hb2:Nat.beq tj i with
     | true=>
      have:=R8 hb2;subst this;rw[hj] at q;cases q
     | false=>exact q
   cases x with
   | normal=>exact fin hx
   | ret=>exact hx
   | exit i=>
    simp only[fJ] at hx ⊢;cases hi:(i==bid') with
    | true=>rw[hi] at hx;exact fin hx
    | false=>rw[hi] at hx;exact hx
  ·have hc:j=m:=by have:=UO hc;omega
   subst hc;have hd:decide ((j:Int)<j)=false:=by simp
   rw[hd];refine AW.exit ?_;simp only[m7,fJ];have:(bid==bid)=true:=by simp
   rw[this];exact done s F' hF hp
 exact AW.weaken hk (AW.le ho main)
end
end Go.Abs
/-
 More rules: elements by their place,equality of structs,bits.
-/
set_option linter.unusedVariables false
namespace Go.Abs
open Go
def o5(T:RT)(eq:TypeId->Value->Value->Option Bool):List (Nat×Nat)->List Value->List Value->Option Bool
 | [],_,_=>some true
 | (off,ft)::fs,xs,ys=>
  match sA T xs ft off,sA T ys ft off with
  | some a,some b=>match eq ft a b,o5 T eq fs xs ys with
   | some p,some q=>some (p&&q)
   | _,_=>none
  | _,_=>none
def K3(C:Ctx)(T:RT):Nat->TypeId->Value->Value->Option Bool
 | 0,_,_,_=>none
 | n+1,t,x,y=>
  match rowOf T t with
  | some r=>match r.d,x,y with
   | .struct fs,.agg ⟨xs⟩,.agg ⟨ys⟩=>bif C.flat t then o5 T (K3 C T n) fs xs ys else none
   | .int _,.int k a,.int k' b=>if k=k' then some (a==b) else none
   | .string,.string a,.string b=>some (a==b)
   | .bool,.bool a,.bool b=>some (a==b)
   | _,_,_=>none
  | none=>none
section
variable {C:Ctx}{T:RT}(hT:aS C T=true)
include hT
theorem qX{eqt eqa:TypeId->Value->Value->Option Bool}(he:∀t x y b,eqt t x y=some b->eqa t x y=some b):∀(fs:List Field) (xs ys:List Value) (b:Bool),
  o5 T eqt (fs.map λf=>(f.offset,f.type)) xs ys=some b->eqFields C eqa fs xs ys=some b
 | [],xs,ys,b,q=>q
 | f::fs,xs,ys,b,q=>by
  simp only[JN,o5] at q;split at q
  ·rename_i u v hu hv;split at q
   ·rename_i p r hp hr;cases q;unfold eqFields;rw[bO hT hu,bO hT hv];simp only[he _ _ _ _ hp];cases p with
    | true=>simpa using qX he fs xs ys r hr
    | false=>rfl
   ·cases q
  ·cases q
theorem kj{t:Nat}{r:Row}(q:rowOf T t=some r)(hd:r.d=.string):C.gZ t=some .string:=by
 obtain⟨_,_,_,_,d,h4,h5⟩:=dG hT q;rw[hd] at h5;cases d<;>first | (cases h5;done) | skip
 rw[h4]
theorem sf{t:Nat}{r:Row}(q:rowOf T t=some r)(hd:r.d=.bool):C.gZ t=some .bool:=by
 obtain⟨_,_,_,_,d,h4,h5⟩:=dG hT q;rw[hd] at h5;cases d<;>first | (cases h5;done) | skip
 rw[h4]
theorem wC:∀(n:Nat) (t:TypeId) (x y:Value) (b:Bool),K3 C T n t x y=some b->uA C n t x y=some b
 | 0,_,_,_,_,q=>by cases q
 | n+1,t,x,y,b,q=>by
  unfold K3 at q;split at q
  ·rename_i r hr;split at q
   ·rename_i fs xs ys hd;obtain⟨fs',hu,hfs⟩:=iY hT hr hd;cases hf:C.flat t with
    | false=>rw[hf] at q;cases q
    | true=>
     rw[hf] at q;simp only[RH] at q;unfold uA;simp only[hu,hf,RH];rw[hfs] at q;exact qX hT (wC n) _ _ _ _ q
   ·rename_i kd k a k' b' hd;have hu:=Ba hT hr hd;unfold uA;simp only[hu,gr];exact q
   ·rename_i a b' hd;have hu:=kj hT hr hd;unfold uA;simp only[hu,gr];rw[<-q]
   ·rename_i a b' hd;have hu:=sf hT hr hd;unfold uA;simp only[hu,gr];rw[<-q]
   ·cases q
  ·cases q
theorem yC{h:aq}{t:TypeId}{xs ys:List Value}{b:Bool}(q:K3 C T 8 t (.agg ⟨xs⟩) (.agg ⟨ys⟩)=some b):equalA C h t (.agg ⟨xs⟩) (.agg ⟨ys⟩)=some b:=by
 have h1:=wC hT 8 t _ _ b q;unfold K3 at q;split at q
 ·rename_i r hr;split at q
  ·rename_i fs _ _ hd _ _;obtain⟨fs',hu,hfs⟩:=iY hT hr hd;unfold equalA;rw[hu];exact h1
  ·rename_i h2 h3;cases h2
  ·rename_i h2 h3;cases h2
  ·rename_i h2 h3;cases h2
  ·cases q
 ·cases q
omit hT in
theorem uP{t:TypeId}{xs ys:List Value}{b:Bool}(q:K3 C T 8 t (.agg ⟨xs⟩) (.agg ⟨ys⟩)=some b):C.flat t=true:=by
 unfold K3 at q;split at q
 ·split at q
  ·cases hf:C.flat t with
   | false=>rw[hf] at q;cases q
   | true=>rfl
  ·rename_i h2 h3;cases h2
  ·rename_i h2 h3;cases h2
  ·rename_i h2 h3;cases h2
  ·cases q
 ·cases q
end
section
variable {C:Ctx}{T:RT}{n:Nat}{k:bC}{F:ar}{own:bh}{ops rest:List Oper}{o:Oper}{Q:bC->ar->bh->List Rec->Prop}{α:Type}{R:Ty α}
theorem WT.Q0(hT:aS C T=true){t ty:TypeId}{xo yo:Operand}{xs ys:List Value}{b:Bool}(hop:o.op=.binOp .eql t xo yo ty)(hw:aF ops k o=some true){dst:Nat}(hdst:o.dst=some dst)(hn:Nat.blt dst n=true)
  (hx:aW C k xo=some (.agg ⟨xs⟩)) (hy:aW C k yo=some (.agg ⟨ys⟩)) (he:K3 C T 8 t (.agg ⟨xs⟩) (.agg ⟨ys⟩)=some b)
  (h:WT C n ops rest ((dst,(.bool b))::k) F own (λk2 F2 own2 rs=>Q k2 F2 own2 (⟨F,own,F,own,[]⟩::rs))):WT C n ops (o::rest) k F own Q:=by
 have hput:∀v,((dst,v)::k:bC)=cu n k o.dst v:=λv=>by rw[hdst,aA hn]
 simp only[hput] at h;refine WT.still hw (by rw[hop];simp only[aX,hx,hy];rfl) (λh0 _=>?_) h;rw[hop];simp only[aN,hx,hy,kW,jD,uP he,yC hT he,RH,Sp]
theorem WT.QX(hT:aS C T=true){t ty:TypeId}{xo yo:Operand}{xs ys:List Value}{b:Bool}(hop:o.op=.binOp .neq t xo yo ty)(hw:aF ops k o=some true){dst:Nat}(hdst:o.dst=some dst)(hn:Nat.blt dst n=true)
  (hx:aW C k xo=some (.agg ⟨xs⟩)) (hy:aW C k yo=some (.agg ⟨ys⟩)) (he:K3 C T 8 t (.agg ⟨xs⟩) (.agg ⟨ys⟩)=some b)
  (h:WT C n ops rest ((dst,(.bool !b))::k) F own (λk2 F2 own2 rs=>Q k2 F2 own2 (⟨F,own,F,own,[]⟩::rs))):WT C n ops (o::rest) k F own Q:=by
 have hput:∀v,((dst,v)::k:bC)=cu n k o.dst v:=λv=>by rw[hdst,aA hn]
 simp only[hput] at h;refine WT.still hw (by rw[hop];simp only[aX,hx,hy];rfl) (λh0 _=>?_) h;rw[hop];simp only[aN,hx,hy,kW,jD,uP he,yC hT he,RH,Sp]
theorem WT.bG(hT:aS C T=true){t e:Nat}{r:Row}{xo io:Operand}{a:Option Addr}{m c:Nat}{xs:List α}{kd:IntKind}{j:Nat}(hxs:bj R F a m c xs)(hop:o.op=.indexAddr t xo io)(hw:aF ops k o=some true){dst:Nat}(hdst:o.dst=some dst)(hn:Nat.blt dst n=true)
  (hx:aW C k xo=some (.slice a m c)) (hi:aW C k io=some (.int kd (j:Nat))) (hr:rowOf T t=some r) (hd:r.d=.slice e) (hs:fL T e=some R.size) (hj:j<xs.length)
  (h:∀x,xs[j]?=some x->∀b off ro cs l,F b=some (.cells ro cs)->cf cs off R.size=some l->R.rel F l x->
   WT C n ops rest ((dst,(.pointer (some ⟨b,off,none⟩)))::k) F own (λk2 F2 own2 rs=>Q k2 F2 own2 (⟨F,own,F,own,[]⟩::rs))):WT C n ops (o::rest) k F own Q:=
 WT.idx hT (x:=xs[j]) (j:=(j:Int)) hxs hop hw hdst hn hx hi hr hd hs (TO j) (by simp[hj]) (h _ (Sh hj))
theorem WT.NQ{t ty:TypeId}{xo yo:Operand}{x y:Int}(hop:o.op=.binOp .mul t xo yo ty)(hw:aF ops k o=some true){dst:Nat}(hdst:o.dst=some dst)(hn:Nat.blt dst n=true)(hx:aW C k xo=some (.int .i64 x))(hy:aW C k yo=some (.int .i64 y))
  (hr:-9223372036854775808<=x*y/\x*y<=9223372036854775807)
  (h:WT C n ops rest ((dst,.int .i64 (x*y))::k) F own (λk2 F2 own2 rs=>Q k2 F2 own2 (⟨F,own,F,own,[]⟩::rs))):WT C n ops (o::rest) k F own Q:=
 WT.mul hop hw hx hy hr (by rw[hdst,aA hn];exact h)
theorem WT.PC{t ty:TypeId}{xo yo:Operand}{x y:Int}(hop:o.op=.binOp .rem t xo yo ty)(hw:aF ops k o=some true){dst:Nat}(hdst:o.dst=some dst)(hn:Nat.blt dst n=true)(hx:aW C k xo=some (.int .i64 x))(hy:aW C k yo=some (.int .i64 y))
  (hr:y≠0)
  (h:WT C n ops rest ((dst,.int .i64 (x.tmod y))::k) F own (λk2 F2 own2 rs=>Q k2 F2 own2 (⟨F,own,F,own,[]⟩::rs))):WT C n ops (o::rest) k F own Q:=
 WT.rem hop hw hx hy hr (by rw[hdst,aA hn];exact h)
theorem rD{x:Int}(h:0<=x/\x<4294967296):IntKind.u32.wrap x=x:=by
 have hs:IntKind.u32.signed=false:=rfl;have hbits:IntKind.u32.bits=32:=rfl;simp only[IntKind.wrap,hs,hbits,Uy];have:(2:Int) ^ 32=4294967296:=rfl;rw[this];simp;omega
theorem Gg{x:Nat}(h:x<4294967296):(BitVec.ofInt 32 (x:Int)).toNat=x:=by
 simp;omega
theorem EF{x y:Nat}(hx:x<4294967296)(hy:y<4294967296):IntKind.u32.wrap ((BitVec.ofInt IntKind.u32.bits (x:Int) ||| BitVec.ofInt IntKind.u32.bits (y:Int)).toNat:Int)=((x ||| y:Nat):Int):=by
 have hb:IntKind.u32.bits=32:=rfl;have h0:x ||| y<4294967296:=Nat.or_lt_two_pow (n:=32) hx hy
 rw[hb,BitVec.toNat_or,Gg hx,Gg hy,rD (by omega)]
theorem lF{x y:Nat}(hx:x<4294967296)(hy:y<4294967296):IntKind.u32.wrap ((BitVec.ofInt IntKind.u32.bits (x:Int) &&& BitVec.ofInt IntKind.u32.bits (y:Int)).toNat:Int)=((x &&& y:Nat):Int):=by
 have hb:IntKind.u32.bits=32:=rfl;have h0:x &&& y<4294967296:=Nat.and_lt_two_pow (n:=32) x hy;rw[hb,BitVec.toNat_and,Gg hx,Gg hy,rD (by omega)]
def andNot(x y:Nat):Nat:=x &&& (4294967295-y)
theorem xh{x y:Nat}(hx:x<4294967296)(hy:y<4294967296):IntKind.u32.wrap ((BitVec.ofInt IntKind.u32.bits (x:Int) &&& ~~~BitVec.ofInt IntKind.u32.bits (y:Int)).toNat:Int)=((andNot x y:Nat):Int):=by
 have hb:IntKind.u32.bits=32:=rfl;have h1:(~~~BitVec.ofInt 32 (y:Int)).toNat=4294967295-y:=by rw[BitVec.toNat_not,Gg hy]
 have h0:andNot x y<4294967296:=by unfold andNot;exact Nat.and_lt_two_pow (n:=32) x (by omega)
 rw[hb,BitVec.toNat_and,h1,Gg hx];exact rD (by unfold andNot at h0;omega)
theorem nQ{x y:Nat}(hx:x<4294967296)(hy:y<4294967296)(j:Nat):(andNot x y).testBit j=(x.testBit j&&!y.testBit j):=by
 unfold andNot;have h2:(4294967295-y).testBit j=(decide (j<32)&&!y.testBit j):=by
  have:=Nat.testBit_two_pow_sub_succ (n:=32) (x:=y) hy j;rw[<-this];congr 1;omega
 rw[U3,h2];rcases R2 j 32 with h | h
 ·simp[h]
 ·have:x.testBit j=false:=TF (SH hx (RS (by decide) h:2 ^ 32<=2 ^ j));simp[this]
theorem uC{x y:Nat}(hx:x<4294967296)(hy:y<4294967296):andNot x y=0↔∀j,x.testBit j=true->y.testBit j=true:=by
 constructor
 ·intro h j hj;have:=nQ hx hy j;rw[h,hj] at this;simpa using this.symm
 ·intro h;apply Nat.eq_of_testBit_eq;intro j;rw[nQ hx hy];cases hj:x.testBit j with
  | false=>simp
  | true=>simp[h j hj]
theorem WT.HI{op:BinOp}{t ty:TypeId}{xo yo:Operand}{x y r:Nat}(hop:o.op=.binOp op t xo yo ty)(hw:aF ops k o=some true){dst:Nat}(hdst:o.dst=some dst)(hn:Nat.blt dst n=true)(hx:aW C k xo=some (.int .u32 x))(hy:aW C k yo=some (.int .u32 y))
  (hr:dj op .u32 x y=some (.int .u32 (r:Nat))) (hsh:op≠.shl/\op≠.shr)
  (h:WT C n ops rest ((dst,(.int .u32 (r:Nat)))::k) F own (λk2 F2 own2 rs=>Q k2 F2 own2 (⟨F,own,F,own,[]⟩::rs))):WT C n ops (o::rest) k F own Q:=by
 have hput:∀v,((dst,v)::k:bC)=cu n k o.dst v:=λv=>by rw[hdst,aA hn]
 simp only[hput] at h;refine WT.bin hop hw hx hy ?_ hsh h;cases op<;>first | exact absurd rfl hsh.1 | exact absurd rfl hsh.2 | (simp only[kW,SU];exact hr)
theorem WT.EF{t ty:TypeId}{xo yo:Operand}{x y:Nat}(hop:o.op=.binOp .or t xo yo ty)(hw:aF ops k o=some true){dst:Nat}(hdst:o.dst=some dst)(hn:Nat.blt dst n=true)(hx:aW C k xo=some (.int .u32 x))(hy:aW C k yo=some (.int .u32 y))(bx:x<4294967296)(by_:y<4294967296)
  (h:WT C n ops rest ((dst,(.int .u32 ((x ||| y:Nat):Int)))::k) F own (λk2 F2 own2 rs=>Q k2 F2 own2 (⟨F,own,F,own,[]⟩::rs))):WT C n ops (o::rest) k F own Q:=
 WT.HI hop hw hdst hn hx hy (by simp only[dj,Go.Abs.EF bx by_]) (by simp) h
theorem WT.lF{t ty:TypeId}{xo yo:Operand}{x y:Nat}(hop:o.op=.binOp .and t xo yo ty)(hw:aF ops k o=some true){dst:Nat}(hdst:o.dst=some dst)(hn:Nat.blt dst n=true)(hx:aW C k xo=some (.int .u32 x))(hy:aW C k yo=some (.int .u32 y))(bx:x<4294967296)(by_:y<4294967296)
  (h:WT C n ops rest ((dst,(.int .u32 ((x &&& y:Nat):Int)))::k) F own (λk2 F2 own2 rs=>Q k2 F2 own2 (⟨F,own,F,own,[]⟩::rs))):WT C n ops (o::rest) k F own Q:=
 WT.HI hop hw hdst hn hx hy (by simp only[dj,Go.Abs.lF bx by_]) (by simp) h
theorem WT.xh{t ty:TypeId}{xo yo:Operand}{x y:Nat}(hop:o.op=.binOp .andNot t xo yo ty)(hw:aF ops k o=some true){dst:Nat}(hdst:o.dst=some dst)(hn:Nat.blt dst n=true)(hx:aW C k xo=some (.int .u32 x))(hy:aW C k yo=some (.int .u32 y))(bx:x<4294967296)(by_:y<4294967296)
  (h:WT C n ops rest ((dst,(.int .u32 ((andNot x y:Nat):Int)))::k) F own (λk2 F2 own2 rs=>Q k2 F2 own2 (⟨F,own,F,own,[]⟩::rs))):WT C n ops (o::rest) k F own Q:=
 WT.HI hop hw hdst hn hx hy (by simp only[dj,Go.Abs.xh bx by_]) (by simp) h
theorem WT.yM{t ty:TypeId}{xo yo:Operand}{x y:Nat}(hop:o.op=.binOp .sub t xo yo ty)(hw:aF ops k o=some true){dst:Nat}(hdst:o.dst=some dst)(hn:Nat.blt dst n=true)(hx:aW C k xo=some (.int .u32 x))(hy:aW C k yo=some (.int .u32 y))(bx:x<4294967296)(by_:y<=x)
  (h:WT C n ops rest ((dst,(.int .u32 ((x-y:Nat):Int)))::k) F own (λk2 F2 own2 rs=>Q k2 F2 own2 (⟨F,own,F,own,[]⟩::rs))):WT C n ops (o::rest) k F own Q:=
 WT.HI hop hw hdst hn hx hy (by
  simp only[dj];rw[rD (by omega)];congr 2;omega) (by simp) h
theorem WT.IV{op:BinOp}{t ty:TypeId}{xo yo:Operand}{x y:Nat}{kd:IntKind}{r:Nat}(hop:o.op=.binOp op t xo yo ty)(hw:aF ops k o=some true){dst:Nat}(hdst:o.dst=some dst)(hn:Nat.blt dst n=true)(hx:aW C k xo=some (.int .u32 x))(hy:aW C k yo=some (.int kd (y:Nat)))
  (hr:jH op .u32 x y=some (.int .u32 (r:Nat))) (hsh:op=.shl\/op=.shr)
  (h:WT C n ops rest ((dst,(.int .u32 (r:Nat)))::k) F own (λk2 F2 own2 rs=>Q k2 F2 own2 (⟨F,own,F,own,[]⟩::rs))):WT C n ops (o::rest) k F own Q:=by
 have hput:∀v,((dst,v)::k:bC)=cu n k o.dst v:=λv=>by rw[hdst,aA hn]
 simp only[hput] at h;refine WT.still (l:=[]) hw (by rw[hop];simp only[aX,hx,hy];rfl) (λh0 _=>?_) h;rw[hop];rcases hsh with rfl | rfl
 ·simp only[aN,hx,hy,kW,hr];rfl
 ·simp only[aN,hx,hy,kW,hr];rfl
theorem WT.Bu{t ty:TypeId}{xo yo:Operand}{x y:Nat}{kd:IntKind}(hop:o.op=.binOp .shl t xo yo ty)(hw:aF ops k o=some true){dst:Nat}(hdst:o.dst=some dst)(hn:Nat.blt dst n=true)(hx:aW C k xo=some (.int .u32 x))(hy:aW C k yo=some (.int kd (y:Nat)))(hy2:y<=32)(hxy:x*2 ^ y<4294967296)
  (h:WT C n ops rest ((dst,(.int .u32 ((x*2 ^ y:Nat):Int)))::k) F own (λk2 F2 own2 rs=>Q k2 F2 own2 (⟨F,own,F,own,[]⟩::rs))):WT C n ops (o::rest) k F own Q:=
 WT.IV hop hw hdst hn hx hy (by
  have hb:IntKind.u32.bits=32:=rfl;unfold jH;rw[AT (by omega)];simp only[hb,T0,SN hy2];rw[rD]
  ·congr 2
  ·have:(x:Int)*2 ^ y=((x*2 ^ y:Nat):Int):=by rw[Ui,Int.natCast_pow];rfl
   rw[this];omega) (.inl rfl) h
theorem WT.Ch{t ty:TypeId}{xo yo:Operand}{x y:Nat}{kd:IntKind}(hop:o.op=.binOp .shr t xo yo ty)(hw:aF ops k o=some true){dst:Nat}(hdst:o.dst=some dst)(hn:Nat.blt dst n=true)(hx:aW C k xo=some (.int .u32 x))(hy:aW C k yo=some (.int kd (y:Nat)))(hy2:y<=32)
  (h:WT C n ops rest ((dst,(.int .u32 ((x / 2 ^ y:Nat):Int)))::k) F own (λk2 F2 own2 rs=>Q k2 F2 own2 (⟨F,own,F,own,[]⟩::rs))):WT C n ops (o::rest) k F own Q:=
 WT.IV hop hw hdst hn hx hy (by
  have hb:IntKind.u32.bits=32:=rfl;unfold jH;rw[AT (by omega)];simp only[hb,T0,SN hy2];congr 2;rw[Int.natCast_ediv,Int.natCast_pow];exact Int.fdiv_eq_ediv_of_nonneg _ (Int.pow_nonneg (by decide))) (.inr rfl) h
theorem WT.conv(hT:aS C T=true){s d:TypeId}{xo:Operand}{r r2:Row}{k1 k2:IntKind}{x:Int}(hop:o.op=.convert s d xo)(hw:aF ops k o=some true){dst:Nat}(hdst:o.dst=some dst)(hn:Nat.blt dst n=true)(hx:aW C k xo=some (.int k1 x))(hs:rowOf T s=some r2)(hr:rowOf T d=some r)(hd:r.d=.int k2)(hf:k2.wrap x=x)
  (h:WT C n ops rest ((dst,(.int k2 x))::k) F own (λk2 F2 own2 rs=>Q k2 F2 own2 (⟨F,own,F,own,[]⟩::rs))):WT C n ops (o::rest) k F own Q:=by
 have hput:∀v,((dst,v)::k:bC)=cu n k o.dst v:=λv=>by rw[hdst,aA hn]
 simp only[hput] at h;refine WT.still (l:=[]) hw (by rw[hop];rfl) (λh0 _=>?_) h;obtain⟨_,_,_,_,d2,h4,h5⟩:=dG hT hs;rw[hop];simp only[aN,hx,xe,h4,Ba hT hr hd,hf];rfl
end
end Go.Abs
/-
 Grammars as data,and how they lie.
-/
set_option linter.unusedVariables false
namespace Go.Abs
open Go
structure Sym where
 term:Bool
 n:Nat
deriving DecidableEq
structure bW where
 left:Nat
 right:List Sym
deriving DecidableEq
structure ai where
 ae:Nat
 au:Nat
 start:Nat
 rules:List bW
def dD:Ty Nat where
 size:=1
 rel:=λ_ l x=>l=[.int .i64 x]
 len:=λ_ _ _ h=>by rw[h];rfl
 one:=λ_ _ _ h=>by rw[h];rfl
 mono:=λ_ _ _ _ _ h=>h
def fh:Ty Sym where
 size:=2
 rel:=λ_ l x=>l=[.bool x.term,.int .i64 x.n]
 len:=λ_ _ _ h=>by rw[h];rfl
 one:=λ_ _ _ h=>by rw[h];rfl
 mono:=λ_ _ _ _ _ h=>h
def cC:Ty bW where
 size:=2
 rel:=λF l x=>∃a n c,l=[.int .i64 x.left,.slice a n c]/\bj fh F a n c x.right
 len:=λ_ _ _ h=>by obtain⟨a,n,c,rfl,_⟩:=h;rfl
 one:=λ_ _ _ h=>by obtain⟨a,n,c,rfl,_⟩:=h;rfl
 mono:=λ_ _ _ _ hF h=>by obtain⟨a,n,c,e,h⟩:=h;exact⟨a,n,c,e,h.mono hF⟩
def FR(F:ar)(v:Value)(g:ai):Prop:=∃a n c,v=.agg ⟨[.int .i64 g.ae,.int .i64 g.au,.int .i64 g.start,.slice a n c]⟩/\bj cC F a n c g.rules
theorem FR.mono{F G:ar}{v:Value}{g:ai}(h:FR F v g)(hF:ar.le F G):FR G v g:=by
 obtain⟨a,n,c,e,h⟩:=h;exact⟨a,n,c,e,h.mono hF⟩
theorem M2(x y:Sym):((x.term==y.term)&&(((x.n:Int)==(y.n:Int))&&true))=decide (x=y):=by
 obtain⟨a,n⟩:=x;obtain⟨b,m⟩:=y;rw[Ta];simp[Int.natCast_inj]
end Go.Abs
namespace Go.Abs
open Go
section
variable {C:Ctx}{n:Nat}{k:bC}{F:ar}{own:bh}{ops rest:List Oper}{o:Oper}{Q:bC->ar->bh->List Rec->Prop}
theorem WT.OD{dst:Nat}{l:List Nat}(hw:aF ops k o=some false)(hdst:o.dst=some dst)(hn:Nat.blt dst n=true)(hl:aX (aW C k) o.op=some l)
  (h:WT C n ops rest ((dst,dv)::k) F own (λk2 F2 own2 rs=>Q k2 F2 own2 (⟨F,own,F,own,l⟩::rs))):WT C n ops (o::rest) k F own Q:=
 WT.skip hw hl (by rw[hdst,aA hn];exact h)
theorem WT.OU{l:List Nat}(hw:aF ops k o=some false)(hdst:o.dst=none)(hl:aX (aW C k) o.op=some l)
  (h:WT C n ops rest k F own (λk2 F2 own2 rs=>Q k2 F2 own2 (⟨F,own,F,own,l⟩::rs))):WT C n ops (o::rest) k F own Q:=
 WT.skip hw hl (by rw[hdst];exact h)
end
end Go.Abs
namespace Go.Abs
open Go
def kindOf:Op->Nat
 | .load _ _=>1
 | .store _ _ _=>2
 | .binOp _ _ _ _ _=>3
 | .indexAddr _ _ _=>4
 | _=>0
section
variable {C:Ctx}{n:Nat}{k:bC}{F:ar}{own:bh}{ops rest:List Oper}{o:Oper}{Q:bC->ar->bh->List Rec->Prop}
theorem WT.kind(m:Nat)(_:Nat.beq (kindOf o.op) m=true)(h:WT C n ops (o::rest) k F own Q):WT C n ops (o::rest) k F own Q:=h
end
end Go.Abs
/-
 Calls in the forms that walks use;lending;slices that are made and written to.
-/
set_option linter.unusedVariables false
namespace Go.Abs
open Go
def ar.iB(F:ar)(B:List (Nat×aE)):ar:=λj=>match B.find? (λp=>p.1==j) with
 | some p=>some p.2
 | none=>F j
theorem IQ{B:List (Nat×aE)}(hn:(B.map (·.1)).Nodup){i:Nat}{b:aE}(h:(i,b)∈B):B.find? (λp=>p.1==i)=some (i,b):=by
 induction B with
 | nil=>cases h
 | cons p B ih=>
  simp only[JN,SM] at hn;rcases R0.1 h with rfl | h
  ·simp
  ·have hne:p.1≠i:=λe=>hn.1 (e▸Ug h);rw[List.find?_cons,show (p.1==i)=false by simpa using hne];exact ih hn.2 h
theorem ar.CB{F:ar}{B:List (Nat×aE)}(hn:(B.map (·.1)).Nodup){i:Nat}{b:aE}(h:(i,b)∈B):ar.iB F B i=some b:=by
 unfold ar.iB;rw[IQ hn h]
theorem ar.EC{F:ar}{B:List (Nat×aE)}(h:∀p∈B,F p.1=none):ar.le F (ar.iB F B):=λi b q=>by
 unfold ar.iB;split
 ·rename_i p hp;have h1:=UK hp;have h2:=List.find?_some hp;have:p.1=i:=by simpa using h2
  have:=h p h1;simp_all
 ·exact q
theorem St.ay{F:ar}{own:bh}{h:aq}{B:List (Nat×aE)}(s:St F (B::own) h) :
  St (ar.iB F B) own h/\ar.le F (ar.iB F B)/\∀i b,(i,b)∈B->ar.iB F B i=some b:=by
 have s0:jJ F (B++own.flatten) h:=by simpa [St] using s
 have hnd:=s0.nodup;rw[Si,S5] at hnd;have hap:∀p∈B,F p.1=none:=λp hp=>s0.apart p (Sw _ hp);have hle:=ar.EC hap;refine⟨⟨λi b q=>?_,λp hp=>s0.has p (SC _ hp),λp hp=>?_,hnd.2.1,s0.wf⟩,hle,λi b hm=>ar.CB hnd.1 hm⟩
 ·unfold ar.iB at q;split at q
  ·rename_i p hp;cases q;have h1:=UK hp;have h2:=List.find?_some hp;have:p.1=i:=by simpa using h2
   rw[<-this];exact s0.has p (Sw _ h1)
  ·exact s0.uz i b q
 ·unfold ar.iB;split
  ·rename_i p2 hp2;have h1:=UK hp2;have h2:=List.find?_some hp2;have h3:p2.1=p.1:=by simpa using h2
   exact absurd h3 (hnd.2.2 _ (Ug h1) _ (Ug hp))
  ·exact s0.apart p (SC _ hp)
theorem Spec.J1{C:Ctx}{f:FuncId}{args:List Value}{F:ar}{oin:bh}{P:Value->bh->Prop}{B:List (Nat×aE)}
  (spec:∀G,ar.le F G->(∀i b,(i,b)∈B->G i=some b)->Spec C f args G oin λ_ v o=>P v o):Spec C f args F (B::oin) λ_ v o=>∃o',o=B::o'/\P v o':=by
 intro own h hs;have hs:St F (B::(oin++own)) h:=hs;obtain⟨s1,hle,hB⟩:=hs.ay;obtain⟨v,h',F',oout,h1,h2,h3,h4⟩:=spec _ hle hB own h s1;have s0:jJ F (B++(oin++own).flatten) h:=by simpa [St] using hs
 have hnd:=s0.nodup;rw[Si,S5] at hnd;have h3':jJ F' (oout++own).flatten h':=h3;have hF':∀i b,(i,b)∈B->F' i=some b:=λi b hm=>h2 i b (hB i b hm);refine⟨v,h',F,B::oout,h1,ar.le.refl F,?_,oout,rfl,h4⟩;show jJ F (B++(oout++own).flatten) h';refine⟨λi b q=>h3'.uz i b (h2 i b (hle i b q)),λp hp=>?_,λp hp=>?_,?_,h3'.wf⟩
 ·rcases R5.1 hp with hp | hp
  ·exact h3'.uz _ _ (hF' p.1 p.2 hp)
  ·exact h3'.has p hp
 ·rcases R5.1 hp with hp | hp
  ·exact s0.apart p (Sw _ hp)
  ·have:=h3'.apart p hp;cases hf:F p.1 with
   | none=>rfl
   | some b=>rw[h2 _ _ (hle _ _ hf)] at this;cases this
 ·rw[Si,S5];refine⟨hnd.1,h3'.nodup,λa ha b hb=>?_⟩;obtain⟨p,hp,rfl⟩:=RI.1 ha;obtain⟨q,hq,rfl⟩:=RI.1 hb;intro e;have h5:=h3'.apart q hq;rw[<-e,hF' p.1 p.2 hp] at h5;cases h5
section
variable {C:Ctx}{T:RT}{n:Nat}{k:bC}{F:ar}{own:bh}{ops rest:List Oper}{o:Oper}{Q:bC->ar->bh->List Rec->Prop}{α:Type}{R:Ty α}
theorem WT.a6{f:FuncId}{fn:Func}{as:Array Operand}{ts:Array TypeId}{args:List Value}{P:Value->Prop}(hf:C.func f=some fn)(hb:fn.body.isSome=true)(hop:o.op=.call ⟨.value (.func f),as,ts⟩)
  (hw:aF ops k o=some true) {dst:Nat} (hdst:o.dst=some dst) (hn:Nat.blt dst n=true) (hv:dI (aW C k) as.toList=some args) (spec:Spec C f args F [] λ_ v o=>o=[]/\P v)
  (h:∀v,P v->WT C n ops rest ((dst,v)::k) F own (λk2 F2 own2 rs=>Q k2 F2 own2 (⟨F,own,F,own,[]⟩::rs))) :
  WT C n ops (o::rest) k F own Q:=by
 refine WT.step (l:=[]) (by rw[hop];rfl) λe h' hk hs=>?_;obtain⟨v,h1,F1,oout,⟨m,hd⟩,hF,hs1,rfl,hp⟩:=spec own h' hs;refine⟨v,h1,F,own,⟨m,λN hN=>?_⟩,ar.le.refl F,hs1.oZ hF,by rw[hdst,aA hn];exact h v hp⟩;unfold ep;rw[eC hk hw];have:aN C (aW C k) h' o.op=some (.call f args):=by
  rw[hop];simp only[aN,aW,hv,lD,hf,hb,RH];simp
 simp only[dU hk.eval this,hd N hN]
theorem WT.cO{f:FuncId}{fn:Func}{as:Array Operand}{ts:Array TypeId}{args:List Value}{P:ar->Value->Prop}(hf:C.func f=some fn)(hb:fn.body.isSome=true)(hop:o.op=.call ⟨.value (.func f),as,ts⟩)
  (hw:aF ops k o=some true) {dst:Nat} (hdst:o.dst=some dst) (hn:Nat.blt dst n=true) (hv:dI (aW C k) as.toList=some args) (spec:Spec C f args F [] λF' v o=>o=[]/\P F' v)
  (h:∀F' v,ar.le F F'->P F' v->WT C n ops rest ((dst,v)::k) F' own (λk2 F2 own2 rs=>Q k2 F2 own2 (⟨F,own,F',own,[]⟩::rs))) :
  WT C n ops (o::rest) k F own Q:=
 WT.Ix hf hb hop hw hdst hn hv spec (NO _) (λF' v oout hF hP=>by obtain⟨rfl,hp⟩:=hP;exact h F' v hF hp)
theorem WT.pI(p:Nat){f:FuncId}{fn:Func}{as:Array Operand}{ts:Array TypeId}{args:List Value}{B:List (Nat×aE)}{dg:List (Nat×aE)->bh}{P:Value->List (Nat×aE)->Prop}(hf:C.func f=some fn)(hb:fn.body.isSome=true)(hop:o.op=.call ⟨.value (.func f),as,ts⟩)
  (hw:aF ops k o=some true) {dst:Nat} (hdst:o.dst=some dst) (hn:Nat.blt dst n=true) (hv:dI (aW C k) as.toList=some args) (hp:own[p]?=some B) (hupd:∀B',ng own p B'=some (dg B'))
  (spec:Spec C f args F [B] λ_ v o=>∃B',o=[B']/\P v B')
  (h:∀v B',P v B'->WT C n ops rest ((dst,v)::k) F (dg B') (λk2 F2 own2 rs=>Q k2 F2 own2 (⟨F,own,F,dg B',[]⟩::rs))) :
  WT C n ops (o::rest) k F own Q:=by
 refine WT.step (l:=[]) (by rw[hop];rfl) λe h' hk hs=>?_;obtain⟨v,h1,F1,oout,⟨m,hd⟩,hF,hs1,B',rfl,hp'⟩:=spec (own.eraseIdx p) h' (hs.perm (cd hp));have e1:=eu _ _ _ _ (hupd B');refine⟨v,h1,F,dg B',⟨m,λN hN=>?_⟩,ar.le.refl F,?_,by rw[hdst,aA hn];exact h v B' hp'⟩
 ·unfold ep;rw[eC hk hw];have:aN C (aW C k) h' o.op=some (.call f args):=by
   rw[hop];simp only[aN,aW,hv,lD,hf,hb,RH];simp
  simp only[dU hk.eval this,hd N hN]
 ·rw[<-e1];exact(hs1.oZ hF).perm (eZ B' hp).symm
theorem WT.jt(p:Nat){f:FuncId}{fn:Func}{as:Array Operand}{ts:Array TypeId}{args:List Value}{B:List (Nat×aE)}{P:Value->Prop}(hf:C.func f=some fn)(hb:fn.body.isSome=true)(hop:o.op=.call ⟨.value (.func f),as,ts⟩)
  (hw:aF ops k o=some true) {dst:Nat} (hdst:o.dst=some dst) (hn:Nat.blt dst n=true) (hv:dI (aW C k) as.toList=some args) (hp:own[p]?=some B)
  (spec:∀G,ar.le F G->(∀i b,(i,b)∈B->G i=some b)->Spec C f args G [] λ_ v o=>o=[]/\P v)
  (h:∀v,P v->WT C n ops rest ((dst,v)::k) F own (λk2 F2 own2 rs=>Q k2 F2 own2 (⟨F,own,F,own,[]⟩::rs))) :
  WT C n ops (o::rest) k F own Q:=by
 refine WT.step (l:=[]) (by rw[hop];rfl) λe h' hk hs=>?_;obtain⟨v,h1,F1,oout,⟨m,hd⟩,hF,hs1,o',rfl,rfl,hp'⟩:=Spec.J1 spec (own.eraseIdx p) h' (hs.perm (cd hp));refine⟨v,h1,F,own,⟨m,λN hN=>?_⟩,ar.le.refl F,?_,by rw[hdst,aA hn];exact h v hp'⟩
 ·unfold ep;rw[eC hk hw];have:aN C (aW C k) h' o.op=some (.call f args):=by
   rw[hop];simp only[aN,aW,hv,lD,hf,hb,RH];simp
  simp only[dU hk.eval this,hd N hN]
 ·exact(hs1.oZ hF).perm (cd hp).symm
theorem WT.ay(p:Nat){B:List (Nat×aE)}{aB:bh}(hp:own[p]?=some B)(ho:ng own p []=some aB)
  (h:∀G,ar.le F G->(∀i b,(i,b)∈B->G i=some b)->WT C n ops rest k G aB Q):WT C n ops rest k F own Q:=by
 intro e h' hk hs;have e1:=eu _ _ _ _ ho;obtain⟨s1,hle,hB⟩:=(hs.perm (cd hp)).ay;have s2:St (ar.iB F B) aB h':=by
  rw[<-e1];refine St.perm (own:=[]::own.eraseIdx p) ?_ (eZ [] hp).symm;exact s1
 obtain⟨e2,h2,tr,k2,F2,own2,rs,h3,h4,h5,h6⟩:=h _ hle hB e h' hk s2;exact⟨e2,h2,tr,k2,F2,own2,rs,h3,h4,hle.trans h5,h6⟩
theorem AW.ay{c:Code}{A:Ex->bC->ar->bh->Prop}(p:Nat){B:List (Nat×aE)}{aB:bh}(hp:own[p]?=some B)(ho:ng own p []=some aB)
  (h:∀G,ar.le F G->(∀i b,(i,b)∈B->G i=some b)->AW C n c k G aB A):AW C n c k F own A:=by
 intro e h' hk hs;have e1:=eu _ _ _ _ ho;obtain⟨s1,hle,hB⟩:=(hs.perm (cd hp)).ay;have s2:St (ar.iB F B) aB h':=by
  rw[<-e1];exact St.perm (own:=[]::own.eraseIdx p) s1 (eZ [] hp).symm
 obtain⟨x,e2,h2,k2,F2,own2,h3,h4,h5,h6⟩:=h _ hle hB e h' hk s2;exact⟨x,e2,h2,k2,F2,own2,h3,h4,hle.trans h5,h6⟩
theorem dR.frozen{a:Option Addr}{m c:Nat}{B:List (Nat×aE)}{xs:List α}(hb:dR R F a m c B xs){G:ar}(hG:ar.le F G)(hB:∀i b,(i,b)∈B->G i=some b):bj R G a m c xs:=hb.arr hG hB
theorem WT.bX(hT:aS C T=true)(p:Nat){B:List (Nat×aE)}{dg:List (Nat×aE)->bh}{a:Option Addr}{m c d by_:Nat}{xs ys:List α}{ds:List Value}{t e:Nat}{ts:List TypeId}{r:Row}{z x:Value}{xo so:Operand}
  (hb:dR R F a m c B xs) (hp:own[p]?=some B) (hupd:∀B',ng own p B'=some (dg B')) (hop:o.op=.call ⟨.builtin .append,⟨[so,xo]⟩,⟨t::ts⟩⟩) (hw:aF ops k o=some true) {dst:Nat} (hdst:o.dst=some dst) (hn:Nat.blt dst n=true)
  (hs:aW C k so=some (.slice a m c)) (hx:aW C k xo=some x) (hr:rowOf T t=some r) (hd:r.d=.slice e) (hsz:fL T e=some R.size) (hz:jv T e=some z) (hby:nk T e=some by_)
  (hnew:∀h,St F own h->kl C h e R.size ts.head? x=some (d,ds)) (hds:aH R F ds ys) (hlen:d=ys.length) (hpos:0<d/\0<R.size/\0<by_) (hroom:(m+d)*by_<=140737488355328)
  (h:∀a' c' B',dR R F a' (m+d) c' B' (xs++ys)->WT C n ops rest ((dst,.slice a' (m+d) c')::k) F (dg B') (λk2 F2 own2 rs=>Q k2 F2 own2 (⟨F,own,F,dg B',[]⟩::rs))) :
  WT C n ops (o::rest) k F own Q:=
 WT.append hT p hb hp hop hw hdst hn hs hx hr hd hsz hz hby hnew hds hlen hpos hroom (λa' c' B' hB=>by
  rw[eu _ _ _ _ (hupd B')];exact h a' c' B' hB)
theorem WT.be(hT:aS C T=true){t e len sz:Nat}{ps:Array (Nat×Operand)}{vs:List (Nat×Value)}{r:Row}{z:Value}{cs:List Value}{cap:Nat}(hop:o.op=.buildSlice t len ps)(hw:aF ops k o=some true){dst:Nat}(hdst:o.dst=some dst)(hn:Nat.blt dst n=true)
  (hps:eN (aW C k) ps.toList=some vs) (hr:rowOf T t=some r) (hd:r.d=.slice e) (hsz:fL T e=some sz) (hz:jv T e=some z) (hok:(Nat.ble (len*sz) 16777216&&Nat.blt 0 sz)=true)
  {cs0:List Value} (hfill:yA (λi=>some (i*sz,sz)) (c7 z.cells.toList len) vs=some cs0) (hlen:cs0.length=len*sz) (hcs:takeN (len*sz) cs0=some cs) (hcap:(bif len==0 then 0 else sz)=cap)
  (h:∀i,F i=none->WT C n ops rest ((dst,.slice (some ⟨i,0,none⟩) len cap)::k) F ([(i,.cells false cs)]::own) (λk2 F2 own2 rs=>Q k2 F2 own2 (⟨F,own,F,[(i,.cells false cs)]::own,[]⟩::rs))) :
  WT C n ops (o::rest) k F own Q:=by
 subst hcap;have:=(nw _ _ _ hcs).1;rw[<-hlen,T6] at this;subst this;exact WT.buildSlice hT hop hw hdst hn hps hr hd hsz hz hok (qI _ _ _ hfill) h
end
end Go.Abs
namespace Go.Abs
open Go
theorem sW{i j:Nat}{ps:List (Nat×Nat)}{rs:List Rec}{a b:Rec}(ha:rs[i]?=some a)(hb:rs[j]?=some b)(hk:∀x∈a.looks,b.keeps x)(h:kf ps rs):kf ((i,j)::ps) rs:=by
 refine⟨λa' b' ha' hb'=>?_,h⟩;rw[ha] at ha';rw[hb] at hb';cases ha';cases hb';exact .inl hk
theorem Gy{i j:Nat}{ps:List (Nat×Nat)}{rs:List Rec}{a b:Rec}(ha:rs[i]?=some a)(hb:rs[j]?=some b)(hij:i<j)(hk:∀h2,St b.F' b.aB h2->a.bend.p h2)(h:kf ps rs):kf ((i,j)::ps) rs:=by
 refine⟨λa' b' ha' hb'=>?_,h⟩;rw[ha] at ha';rw[hb] at hb';cases ha';cases hb';exact .inr ⟨hij,hk⟩
theorem I0{b:Rec}:∀y∈([]:List Nat),b.keeps y:=λ_ h=>by cases h
theorem IU{b:Rec}{x:Nat}(h:b.keeps x):∀y∈[x],b.keeps y:=λy hy=>by rw[RK.1 hy];exact h
theorem JA{r:Rec}{x:Nat}{bu:aE}(p q:Nat){B B':List (Nat×aE)}(h1:r.own[p]?=some B)(h2:(x,bu)∈B)(h3:r.aB[q]?=some B')(h4:(x,bu)∈B'):r.keeps x:=
 .inr ⟨bu,UZ.2 ⟨B,Tc h1,h2⟩,UZ.2 ⟨B',Tc h3,h4⟩⟩
theorem yI{r:Rec}{x:Nat}{bu:aE}(h:r.F x=some bu):r.keeps x:=.inl ⟨bu,h⟩
end Go.Abs
namespace Go.Abs
open Go
section
variable {C:Ctx}{T:RT}{n:Nat}{k:bC}{F:ar}{own:bh}{ops rest:List Oper}{o:Oper}{Q:bC->ar->bh->List Rec->Prop}{α:Type}{R:Ty α}
theorem WT.Rg(hT:aS C T=true){t ty:TypeId}{xo yo:Operand}{a b:Bool}{r:Row}(hop:o.op=.binOp .eql t xo yo ty)(hw:aF ops k o=some true){dst:Nat}(hdst:o.dst=some dst)(hn:Nat.blt dst n=true)
  (hx:aW C k xo=some (.bool a)) (hy:aW C k yo=some (.bool b)) (hr:rowOf T t=some r) (hd:r.d=.bool)
  (h:WT C n ops rest ((dst,.bool (a==b))::k) F own (λk2 F2 own2 rs=>Q k2 F2 own2 (⟨F,own,F,own,[]⟩::rs))):WT C n ops (o::rest) k F own Q:=by
 refine WT.still hw (by rw[hop];simp only[aX,hx,hy];rfl) (λh0 _=>?_) (by rw[hdst,aA hn];exact h);rw[hop];have hu:=sf hT hr hd;simp only[aN,hx,hy,kW,jD,RH,equalA,hu];unfold uA;simp only[hu,gr];rfl
theorem WT.Q1(hT:aS C T=true){t ty:TypeId}{xo yo:Operand}{a b:Bool}{r:Row}(hop:o.op=.binOp .neq t xo yo ty)(hw:aF ops k o=some true){dst:Nat}(hdst:o.dst=some dst)(hn:Nat.blt dst n=true)
  (hx:aW C k xo=some (.bool a)) (hy:aW C k yo=some (.bool b)) (hr:rowOf T t=some r) (hd:r.d=.bool)
  (h:WT C n ops rest ((dst,.bool (!(a==b)))::k) F own (λk2 F2 own2 rs=>Q k2 F2 own2 (⟨F,own,F,own,[]⟩::rs))):WT C n ops (o::rest) k F own Q:=by
 refine WT.still hw (by rw[hop];simp only[aX,hx,hy];rfl) (λh0 _=>?_) (by rw[hdst,aA hn];exact h);rw[hop];have hu:=sf hT hr hd;simp only[aN,hx,hy,kW,jD,RH,equalA,hu];unfold uA;simp only[hu,gr];rfl
theorem WT.OH(hT:aS C T=true){t:TypeId}{ao:Operand}{i off:Nat}{ro:Bool}{cs:List Value}{v:Value}(hb:F i=some (.cells ro cs))(hop:o.op=.load t ao)(hw:aF ops k o=some true){dst:Nat}(hdst:o.dst=some dst)(hn:Nat.blt dst n=true)
  (ha:aW C k ao=some (.pointer (some ⟨i,off,none⟩))) (hr:sA T cs t off=some v)
  (h:WT C n ops rest ((dst,v)::k) F own (λk2 F2 own2 rs=>Q k2 F2 own2 (⟨F,own,F,own,[i]⟩::rs))):WT C n ops (o::rest) k F own Q:=
 WT.ve hop hw ha hb (bO hT hr) (by rw[hdst,aA hn];exact h)
theorem qi{f:FuncId}{fn:Func}{first args capt:List Value}(hf:C.func f=some fn)(hb:fn.body.isSome=true):lD C (.func (.func f) ⟨first⟩ ⟨capt⟩) args=some (.call f (first++args++capt)):=by
 simp only[lD,hf,hb,RH]
theorem WT.eB{f:FuncId}{fn:Func}{fo:Operand}{as:Array Operand}{ts:Array TypeId}{args args' first capt:List Value}{P:Value->Prop}(hf:C.func f=some fn)(hb:fn.body.isSome=true)(hop:o.op=.call ⟨.value fo,as,ts⟩)
  (hw:aF ops k o=some true) {dst:Nat} (hdst:o.dst=some dst) (hn:Nat.blt dst n=true) (hfo:aW C k fo=some (.func (.func f) ⟨first⟩ ⟨capt⟩)) (hv:dI (aW C k) as.toList=some args) (hargs:first++args++capt=args') (spec:Spec C f args' F [] λ_ v o=>o=[]/\P v)
  (h:∀v,P v->WT C n ops rest ((dst,v)::k) F own (λk2 F2 own2 rs=>Q k2 F2 own2 (⟨F,own,F,own,[]⟩::rs))) :
  WT C n ops (o::rest) k F own Q:=by
 subst hargs;refine WT.step (l:=[]) (by rw[hop];rfl) λe h' hk hs=>?_;obtain⟨v,h1,F1,oout,⟨m,hd⟩,hF,hs1,rfl,hp⟩:=spec own h' hs;refine⟨v,h1,F,own,⟨m,λN hN=>?_⟩,ar.le.refl F,hs1.oZ hF,by rw[hdst,aA hn];exact h v hp⟩;unfold ep;rw[eC hk hw];have:aN C (aW C k) h' o.op=some (.call f (first++args++capt)):=by
  rw[hop];simp only[aN,hfo,hv,qi hf hb]
 simp only[dU hk.eval this,hd N hN]
end
end Go.Abs
/-
 Slices that are made and written to;rows of a table;numbers of 32 bits.
-/
set_option linter.unusedVariables false
namespace Go.Abs
open Go
section
variable {C:Ctx}{T:RT}{n:Nat}{k:bC}{F:ar}{own:bh}{ops rest:List Oper}{o:Oper}{Q:bC->ar->bh->List Rec->Prop}{α:Type}{R:Ty α}
theorem WT.jB(d:Nat){v v':Value}(hv:lk k d=some v)(e:v=v')(h:WT C n ops rest ((d,v')::k) F own Q):WT C n ops rest k F own Q:=
 WT.weaken (bI.tJ (e▸hv)) h
theorem AW.jB{c:Code}{A:Ex->bC->ar->bh->Prop}(d:Nat){v v':Value}(hv:lk k d=some v)(e:v=v')(h:AW C n c ((d,v')::k) F own A):AW C n c k F own A:=
 AW.weaken (bI.tJ (e▸hv)) h
theorem WT.eA(hT:aS C T=true){t e s:Nat}{r:Row}{xo io:Operand}{b off m c:Nat}{kd:IntKind}{j:Nat}(hop:o.op=.indexAddr t xo io)(hw:aF ops k o=some true){dst:Nat}(hdst:o.dst=some dst)(hn:Nat.blt dst n=true)
  (hx:aW C k xo=some (.slice (some ⟨b,off,none⟩) m c)) (hi:aW C k io=some (.int kd (j:Nat))) (hr:rowOf T t=some r) (hd:r.d=.slice e) (hs:fL T e=some s) (hj:j<m)
  (h:WT C n ops rest ((dst,.pointer (some ⟨b,off+j*s,none⟩))::k) F own (λk2 F2 own2 rs=>Q k2 F2 own2 (⟨F,own,F,own,[]⟩::rs))):WT C n ops (o::rest) k F own Q:=by
 refine WT.still (l:=[]) hw (by rw[hop];rfl) (λh0 _=>?_) (by rw[hdst,aA hn];exact h);rw[hop];simp only[aN,hx,hi,iU,bK hT hr hd,cq hT hs];rw[By ⟨TO j,by omega⟩];simp
theorem WT.Ni(hT:aS C T=true){t e s len:Nat}{r:Row}{xo io:Operand}{b off:Nat}{kd:IntKind}{j:Nat}(hop:o.op=.indexAddr t xo io)(hw:aF ops k o=some true){dst:Nat}(hdst:o.dst=some dst)(hn:Nat.blt dst n=true)
  (hx:aW C k xo=some (.pointer (some ⟨b,off,none⟩))) (hi:aW C k io=some (.int kd (j:Nat))) (hr:rowOf T t=some r) (hd:r.d=.array len e) (hs:fL T e=some s) (hj:j<len)
  (h:WT C n ops rest ((dst,.pointer (some ⟨b,off+j*s,none⟩))::k) F own (λk2 F2 own2 rs=>Q k2 F2 own2 (⟨F,own,F,own,[]⟩::rs))):WT C n ops (o::rest) k F own Q:=by
 refine WT.still (l:=[]) hw (by rw[hop];rfl) (λh0 _=>?_) (by rw[hdst,aA hn];exact h);rw[hop];simp only[aN,hx,hi,iU,sX hT hr hd,cq hT hs];rw[By ⟨TO j,by omega⟩];simp
theorem xp(hT:aS C T=true){t off:Nat}{r:Row}{cs:List Value}{v:Value}(hr:rowOf T t=some r)(hd:r.d.agg=false)(hv:cs[off]?=some v):eX C cs t off=some v:=by
 obtain⟨_,h1,_,_,d,h4,h5⟩:=dG hT hr;unfold eX;rw[h4];simp only[tK h5,hd,RO];exact hv
theorem WT.loadAt(hT:aS C T=true)(p:Nat){t:TypeId}{ao:Operand}{i off:Nat}{ro:Bool}{cs:List Value}{v:Value}{r:Row}{B:List (Nat×aE)}(hop:o.op=.load t ao)(hw:aF ops k o=some true){dst:Nat}(hdst:o.dst=some dst)(hn:Nat.blt dst n=true)
  (ha:aW C k ao=some (.pointer (some ⟨i,off,none⟩))) (hp:own[p]?=some B) (hq:(i,aE.cells ro cs)∈B) (hr:rowOf T t=some r) (hd:r.d.agg=false) (hv:cs[off]?=some v)
  (h:WT C n ops rest ((dst,v)::k) F own (λk2 F2 own2 rs=>Q k2 F2 own2 (⟨F,own,F,own,[i]⟩::rs))):WT C n ops (o::rest) k F own Q:=
 WT.vj p hop hw ha hp hq (xp hT hr hd hv) (by rw[hdst,aA hn];exact h)
theorem WT.KL(hT:aS C T=true){t:TypeId}{ao:Operand}{i off:Nat}{ro:Bool}{cs:List Value}{v:Value}{r:Row}(hb:F i=some (.cells ro cs))(hop:o.op=.load t ao)(hw:aF ops k o=some true){dst:Nat}(hdst:o.dst=some dst)(hn:Nat.blt dst n=true)
  (ha:aW C k ao=some (.pointer (some ⟨i,off,none⟩))) (hr:rowOf T t=some r) (hd:r.d.agg=false) (hv:cs[off]?=some v)
  (h:WT C n ops rest ((dst,v)::k) F own (λk2 F2 own2 rs=>Q k2 F2 own2 (⟨F,own,F,own,[i]⟩::rs))):WT C n ops (o::rest) k F own Q:=
 WT.ve hop hw ha hb (xp hT hr hd hv) (by rw[hdst,aA hn];exact h)
theorem WT.storeAt(hT:aS C T=true)(p q:Nat){B B':List (Nat×aE)}{aB:bh}{t:TypeId}{a x:Operand}{i off:Nat}{cs:List Value}{v:Value}(hop:o.op=.store t a x)(hw:aF ops k o=some true)(hd:o.dst=none)(ha:aW C k a=some (.pointer (some ⟨i,off,none⟩)))
  (hx:aW C k x=some v) (hp:own[p]?=some B) (hq:B[q]?=some (i,.cells false cs)) (hm:fL T t=some 1) (hv:v.cells.toList=[v]) (h1:one v=true) (hlt:off<cs.length)
  (hB:B.set q (i,.cells false (cs.set off v))=B') (ho:ng own p B'=some aB)
  (h:WT C n ops rest k F aB (λk2 F2 own2 rs=>Q k2 F2 own2 (⟨F,own,F,aB,[i]⟩::rs))) :
  WT C n ops (o::rest) k F own Q:=by
 have e2:=eu _ _ _ _ ho;subst hB;subst e2;have hs:bk cs off v.cells.toList=cs.set off v:=by
  unfold bk;rw[hv,List.set_eq_take_append_cons_drop,By hlt];rfl
 have:=WT.store (C:=C) (n:=n) (k:=k) (F:=F) (Q:=Q) (rest:=rest) (ops:=ops) p q hop hw ha hx hp hq (cq hT hm) (by rw[hv];rfl) (by rw[hv];simp[h1]) (by omega);rw[hs] at this;exact this (by rw[hd];exact h)
def L5:Value->Option Value
 | .int k n=>some (.int k n)
 | .bool b=>some (.bool b)
 | .slice a n c=>some (.slice a n c)
 | .pointer p=>some (.pointer p)
 | .map m=>some (.map m)
 | _=>none
theorem Ki:∀{v w:Value},L5 v=some w->v=w/\v.cells.toList=[w]
 | .int _ _,_,h=>by cases h;exact⟨rfl,rfl⟩
 | .bool _,_,h=>by cases h;exact⟨rfl,rfl⟩
 | .slice _ _ _,_,h=>by cases h;exact⟨rfl,rfl⟩
 | .pointer _,_,h=>by cases h;exact⟨rfl,rfl⟩
 | .map _,_,h=>by cases h;exact⟨rfl,rfl⟩
 | .float ..,_,h=>by cases h
 | .complex ..,_,h=>by cases h
 | .string ..,_,h=>by cases h
 | .chan ..,_,h=>by cases h
 | .func ..,_,h=>by cases h
 | .nilFunc,_,h=>by cases h
 | .iface ..,_,h=>by cases h
 | .nilIface,_,h=>by cases h
 | .agg ..,_,h=>by cases h
 | .tuple ..,_,h=>by cases h
theorem WT.uw(hT:aS C T=true){t e by_:Nat}{lo co:Operand}{l:Nat}{r:Row}{z zc:Value}(hop:o.op=.makeSlice t lo co)(hw:aF ops k o=some true){dst:Nat}(hdst:o.dst=some dst)(hn:Nat.blt dst n=true)
  (hl:aW C k lo=some (.int .i64 (l:Nat))) (hc:aW C k co=some (.int .i64 (l:Nat))) (hr:rowOf T t=some r) (hd:r.d=.slice e) (hsz:fL T e=some 1) (hz:jv T e=some z) (hzn:L5 z=some zc) (hby:nk T e=some by_)
  (hroom:l<=281474976710656/\by_*l<=281474976710656)
  (h:∀i,F i=none->WT C n ops rest ((dst,.slice (some ⟨i,0,none⟩) l (bif l==0 then 0 else 1))::k) F ([(i,.cells false (List.replicate l zc))]::own) (λk2 F2 own2 rs=>Q k2 F2 own2 (⟨F,own,F,[(i,.cells false (List.replicate l zc))]::own,[]⟩::rs))) :
  WT C n ops (o::rest) k F own Q:=by
 have hzc:=(Ki hzn).2;have hrows:c7 z.cells.toList l=List.replicate l zc:=by
  rw[hzc];clear hroom h hl hc
  induction l with
  | zero=>rfl
  | succ l ih=>simp only[c7,ih,List.replicate_succ];rfl
 refine WT.new (mk:=λi=>.slice (some ⟨i,0,none⟩) l (bif l==0 then 0 else 1)) (l:=[]) hw (by rw[hop];rfl) (λh0 _=>?_) (λi hi=>by rw[hdst,aA hn];exact h i hi);rw[hop];simp only[aN,hl,hc,je,bK hT hr hd,cq hT hsz,du hT hz,gn hT hby];have h2:((by_:Nat):Int)*(l:Int)<=281474976710656:=by
  have:=hroom.2;have h2:((by_*l:Nat):Int)<=281474976710656:=by omega
  rwa [Ui] at h2
 have h3:(0:Int)<=l/\True/\(l:Int)<=281474976710656/\(by_:Int)*(l:Int)<=281474976710656/\0<1:=⟨TO l,trivial,by omega,h2,by decide⟩;rw[By h3];simp[hrows]
theorem WT.M4{t ty:TypeId}{xo yo:Operand}{x y:Nat}(hop:o.op=.binOp .mul t xo yo ty)(hw:aF ops k o=some true){dst:Nat}(hdst:o.dst=some dst)(hn:Nat.blt dst n=true)(hx:aW C k xo=some (.int .u32 x))(hy:aW C k yo=some (.int .u32 y))
  (h:WT C n ops rest ((dst,.int .u32 ((x*y % 4294967296:Nat):Int))::k) F own (λk2 F2 own2 rs=>Q k2 F2 own2 (⟨F,own,F,own,[]⟩::rs))):WT C n ops (o::rest) k F own Q:=
 WT.HI hop hw hdst hn hx hy (by
  have hs:IntKind.u32.signed=false:=rfl;have hbits:IntKind.u32.bits=32:=rfl;simp only[dj,IntKind.wrap,hs,hbits,Uy];have:(2:Int) ^ 32=4294967296:=rfl;rw[this];simp) (by simp) h
end
structure vD(α:Type) where
 cell:α->Value
 one:∀x,Go.Abs.one (cell x)=true
 cells:∀x,(cell x).cells.toList=[cell x]
def zK:vD Nat:=⟨λx=>.int .u32 x,λ_=>rfl,λ_=>rfl⟩
def aO:vD Bool:=⟨λx=>.bool x,λ_=>rfl,λ_=>rfl⟩
inductive Rows{α:Type}(K:vD α):List Value->List (Nat×aE)->List (List α)->Prop
 | nil:Rows K [] [] []
 | cons {id c:Nat} {vs:List Value} {bs:List (Nat×aE)} {row:List α} {rows:List (List α)}:(c=if row.length=0 then 0 else 1)->Rows K vs bs rows->
   Rows K (.slice (some ⟨id,0,none⟩) row.length c::vs) ((id,.cells false (row.map K.cell))::bs) (row::rows)
section
variable {α:Type}{K:vD α}
theorem Rows.len{vs:List Value}{bs:List (Nat×aE)}{rows:List (List α)}(h:Rows K vs bs rows):vs.length=rows.length/\bs.length=rows.length:=by
 induction h with
 | nil=>simp
 | cons _ _ ih=>simp[ih]
theorem Rows.at{vs:List Value}{bs:List (Nat×aE)}{rows:List (List α)}(h:Rows K vs bs rows):∀(r:Nat) (row:List α),rows[r]?=some row->
  ∃id c,vs[r]?=some (.slice (some ⟨id,0,none⟩) row.length c)/\bs[r]?=some (id,.cells false (row.map K.cell))/\(c=if row.length=0 then 0 else 1):=by
 induction h with
 | nil=>intro r row h;simp at h
 | cons hc _ ih=>
  intro r row h;cases r with
  | zero=>simp at h;subst h;exact⟨_,_,rfl,rfl,hc⟩
  | succ r=>exact ih r row (by simpa using h)
theorem Rows.set{vs:List Value}{bs:List (Nat×aE)}{rows:List (List α)}(h:Rows K vs bs rows):∀(r:Nat) (row row':List α) (id:Nat),rows[r]?=some row->row'.length=row.length->bs[r]?=some (id,.cells false (row.map K.cell))->
  Rows K vs (bs.set r (id,.cells false (row'.map K.cell))) (rows.set r row'):=by
 induction h with
 | nil=>intro r row row' id h;simp at h
 | cons hc h2 ih=>
  intro r row row' id h hl hb;cases r with
  | zero=>
   simp at h;subst h;simp at hb;obtain⟨rfl,_⟩:=hb;simp only[Ul];rw[<-hl];exact Rows.cons (by rw[hl];exact hc) h2
  | succ r=>exact Rows.cons hc (ih r row row' id (by simpa using h) hl (by simpa using hb))
theorem Rows.snoc{vs:List Value}{bs:List (Nat×aE)}{rows:List (List α)}(h:Rows K vs bs rows){id c:Nat}{row:List α}(hc:c=if row.length=0 then 0 else 1) :
  Rows K (vs++[.slice (some ⟨id,0,none⟩) row.length c]) (bs++[(id,.cells false (row.map K.cell))]) (rows++[row]):=by
 induction h with
 | nil=>exact Rows.cons hc Rows.nil
 | cons hc2 _ ih=>exact Rows.cons hc2 ih
theorem dS{R:Ty α}(hs:R.size=1)(hrel:∀F x,R.rel F [K.cell x] x){F:ar}{id c:Nat}{row:List α}(hc:c=if row.length=0 then 0 else 1){ro:Bool}(hF:F id=some (.cells ro (row.map K.cell))) :
  bj R F (some ⟨id,0,none⟩) row.length c row:=by
 refine⟨rfl,?_,?_,λh=>(by cases h),λp hp=>(by cases hp;rfl),λj x hj=>?_⟩
 ·rw[hs,hc];split<;>simp
 ·rw[hc];split
  ·intro _;assumption
  ·intro h;cases h
 ·refine⟨id,0,ro,_,[K.cell x],rfl,hF,?_,hrel F x⟩;rw[hs,RY,Sy];unfold cf;have:((row.map K.cell).drop j).take 1=[K.cell x]:=by
   have hlt:j<row.length:=(R9.1 hj).1;rw[Sa (by simpa using hlt)];rw[Sh hlt] at hj;simp at hj;simp[hj]
  rw[this];rfl
theorem Rows.arr{R:Ty α}(hs:R.size=1)(hrel:∀F x,R.rel F [K.cell x] x){vs:List Value}{bs:List (Nat×aE)}{rows:List (List α)}(h:Rows K vs bs rows){F:ar}(hF:∀i b,(i,b)∈bs->F i=some b){o c:Nat}{ro:Bool}
  (hc:c=if rows.length=0 then 0 else 1) (ho:F o=some (.cells ro vs)):bj (cg R) F (some ⟨o,0,none⟩) rows.length c rows:=by
 refine⟨rfl,?_,?_,λh=>(by cases h),λp hp=>(by cases hp;rfl),λj x hj=>?_⟩
 ·show c=0\/c=1;rw[hc];split<;>simp
 ·rw[hc];split
  ·intro _;assumption
  ·intro h;cases h
 ·obtain⟨id,c2,h1,h2,h3⟩:=h.at j x hj;refine⟨o,0,ro,vs,[_],rfl,ho,?_,_,_,_,rfl,dS hs hrel h3 (hF _ _ (Tc h2))⟩;show cf vs (0+j*1) 1=_;rw[RY,Sy];unfold cf;have hlt:j<vs.length:=(R9.1 h1).1;have:(vs.drop j).take 1=[.slice (some ⟨id,0,none⟩) x.length c2]:=by
   rw[Sa hlt];rw[Sh hlt] at h1;simp at h1;simp[h1]
  rw[this];rfl
end
end Go.Abs
/-
 From a function's contract over the abstract machine to its calls in the model: arguments that are numbers and slices of numbers.
-/
set_option linter.unusedVariables false
namespace Go.Abs
open Go Go.ChangeShapes Go.WideShapes Go.RowKit
theorem DU{σ:aY}:∀{v:Value},uk v=true->aL σ v v
 | .int _ _,_=>rfl
 | .bool _,_=>rfl
 | .float ..,h=>by cases h
 | .complex ..,h=>by cases h
 | .string ..,h=>by cases h
 | .pointer ..,h=>by cases h
 | .slice ..,h=>by cases h
 | .map ..,h=>by cases h
 | .chan ..,h=>by cases h
 | .func ..,h=>by cases h
 | .nilFunc,h=>by cases h
 | .iface ..,h=>by cases h
 | .nilIface,h=>by cases h
 | .agg ..,h=>by cases h
 | .tuple ..,h=>by cases h
def dc:List (Nat×Loc)->Nat->Option Loc
 | [],_=>none
 | (i,l)::ls,j=>if i=j then some l else dc ls j
theorem j4:∀(a b:List (Nat×Loc)) (j:Nat),dc (a++b) j=match dc a j with | some l=>some l | none=>dc b j
 | [],b,j=>by simp[dc]
 | (i,l)::a,b,j=>by
  simp only[T3,dc];split
  ·rfl
  ·exact j4 a b j
theorem GY{l:List (Nat×aE)}(hn:(l.map (·.1)).Nodup){i:Nat}{b:aE}(h:(i,b)∈l):(gR l).get i=some b:=by
 induction l with
 | nil=>cases h
 | cons p l ih=>
  simp only[JN,SM] at hn;simp only[gR];rw[T.kO];rcases R0.1 h with rfl | h
  ·simp
  ·have:i≠p.1:=λe=>hn.1 (e▸Ug h);rw[AT this];exact ih hn.2 h
theorem Ce{W:World}{b off:Nat}{cs:List Value}(hne:cs≠[])(hc:∀j v,cs[j]?=some v->W.cell? ⟨b,off+j,none⟩=some v)(hw:cs.all uk=true) :
  ∃l:Loc,l.bu=b/\l.off=off/\off+cs.length<=l.size/\∀σ,kX σ W l (.cells true cs):=by
 obtain⟨c,cs',rfl⟩:=List.exists_cons_of_ne_nil hne;have h0:=hc 0 c rfl;unfold World.cell? at h0;split at h0
 ·rename_i arr ty fr hh;have hcell:∀j v,(c::cs')[j]?=some v->arr[off+j]?=some v:=λj v hj=>by
   have:=hc j v hj;unfold World.cell? at this;simp only[hh] at this;simpa using this
  have hlen:off+(c::cs').length<=arr.size:=by
   have:=hcell cs'.length ((c::cs')[cs'.length]'(by simp)) (Sh (by simp));have:=(RV.1 this).1;simp;omega
  have hlist:(arr.toList.drop off).take (c::cs').length=c::cs':=by
   apply SA;intro j;rw[Sg,Se];split
   ·rename_i hj;have:=hcell j ((c::cs')[j]) (Sh hj);rw[Sh hj,<-this];simp
   ·rename_i hj;rw[R3 (by omega)]
  refine⟨⟨b,off,arr.size⟩,rfl,rfl,hlen,λσ=>⟨arr,ty,fr,hh,rfl,λh=>(by cases h),hlen,?_⟩⟩;have hself:∀l:List Value,l.all uk=true->aJ σ l l:=by
   intro l
   induction l with
   | nil=>intro _;rfl
   | cons v l ih=>
    intro h;simp only[List.all_cons,IN] at h;exact⟨v,l,rfl,DU h.1,ih h.2⟩
  show aJ σ (c::cs') ((arr.toList.drop off).take (c::cs').length);rw[hlist];exact hself _ hw
 ·cases h0
def AQ(tI:TypeId)(F:ar):List TypeId->List Value->Prop
 | [],aa=>aa=[]
 | t::ts,aa=>∃a aa',aa=a::aa'/\(if t=tI then ∃n,a=.int .i64 n else ∃b m c l,a=.slice b m c/\bj iF F b m c l/\m<=9223372036854775807)/\AQ tI F ts aa'
section
variable {H:Type}{enc:TypeId×Value->H}{P:Program}{W:World}
theorem I4{zs:List Int}{len:Nat}(hl:len<=zs.length)(hz:zs≠[]){k:Nat}{F:ar}(hF:F k=some (.cells true (zs.map λn=>Value.int .i64 n))):bj iF F (some ⟨k,0,none⟩) len 1 (zs.take len):=by
 refine⟨by simp;omega,.inr rfl,λh=>(by cases h),λh=>(by cases h),λp hp=>(by cases hp;rfl),λj x hj=>?_⟩;rw[Sg] at hj;split at hj
 ·refine⟨k,0,true,_,[.int .i64 x],rfl,hF,?_,rfl⟩;show cf _ (0+j*1) 1=_;rw[RY,Sy];unfold cf;have hlt:j<zs.length:=(R9.1 hj).1;have:((zs.map λn=>Value.int .i64 n).drop j).take 1=[.int .i64 x]:=by
   rw[Sa (by simpa using hlt)];rw[Sh hlt] at hj;simp at hj;simp[hj]
  rw[this];rfl
 ·cases hj
theorem Cg{tI tS:TypeId}(hI:P.underlying tI=some (.int .i64))(hS:P.underlying tS=some (.slice tI))(hc:P.cellsOf tI=1)(hne:tS≠tI){base:Nat} :
  ∀(ts:List TypeId) (vs:List Value) (ds:List (DataW H)) (ps:List MemPlace) (k0:Nat),DataW.TrodAll enc P W 0 (λ_=>true) true ts vs ds ps->
  (∀(j:Nat) (t:TypeId) (v:Value),ts[j]?=some t->vs[j]?=some v->Value.okWide P W .any base t v)->(∀t∈ts,t=tI\/t=tS)->
  ∃(aa:List Value) (blks:List (Nat×aE)) (locs:List (Nat×Loc)),(∀p∈blks,k0<=p.1/\p.1<k0+ts.length/\qQ p.2=true/\∃l,dc locs p.1=some l/\∀σ,kX σ W l p.2)/\
   (∀i l,dc locs i=some l->k0<=i/\i<k0+ts.length)/\(blks.map (·.1)).Nodup/\(∀σ:aY,(∀i l,dc locs i=some l->σ i=some l)->aJ σ aa vs)/\
   (∀F:ar,(∀p∈blks,F p.1=some p.2)->AQ tI F ts aa)/\
   (∀W',Below W.heap.size W W'->∀sp:Nat->Bool,(∀p∈ps,sp p.block=true)->DataW.TrodAll enc P W' 0 sp true ts vs ds ps)
 | [],vs,ds,ps,k0,h,_,_=>by
  obtain⟨rfl,rfl,rfl⟩:=trodAll_nil h;exact⟨[],[],[],λp hp=>(by cases hp),λi l hl=>(by cases hl),T7,λσ _=>rfl,λF _=>rfl,λW' _ sp _=>rfl⟩
 | t::ts,vs,ds,ps,k0,h,hok,hts=>by
  obtain⟨v,vs',d,ds',p,q,rfl,rfl,rfl,hd,hrest⟩:=trodAll_cons h;obtain⟨aa,blks,locs,h1,h2,h3,h4,h5,h6⟩:=Cg hI hS hc hne ts vs' ds' q (k0+1) hrest (λj t v hj hv=>hok (j+1) t v (by simpa using hj) (by simpa using hv)) (λt ht=>hts t (If _ ht));have hv:=hok 0 t v rfl rfl;have hlt:∀j,k0+1<=j->j<k0+1+ts.length->k0<=j/\j<k0+(t::ts).length:=λj a b=>by simp;omega
  rcases hts t (RR ..) with rfl | rfl
  ·obtain⟨n,rfl,rfl,rfl,hwf⟩:=open_int hI hv hd;refine⟨.int .i64 n::aa,blks,locs,λp hp=>?_,λi l hl=>?_,h3,λσ hσ=>⟨_,_,rfl,rfl,h4 σ hσ⟩,λF hF=>⟨_,_,rfl,by rw[By rfl];exact⟨n,rfl⟩,h5 F hF⟩,λW' hW sp hsp=>?_⟩
   ·obtain⟨a,b,r⟩:=h1 p hp;exact⟨(hlt _ a b).1,(hlt _ a b).2,r⟩
   ·obtain⟨a,b⟩:=h2 i l hl;exact hlt _ a b
   ·exact⟨[],q,shut_int hI hwf,h6 W' hW sp (λp hp=>hsp p (by simpa using hp)),by simp⟩
  ·obtain⟨av,len,cap,rfl⟩:=okWide_slice hS hv;obtain⟨fuel,hf⟩:=hd;rcases open_ints hS hI hc hf with ⟨e1,e2⟩ | ⟨a,len',cap',zs,e1,hb,hl,hm,hz,hx,hcell,hwf⟩
   ·simp only[Value.cells,R1,UP] at e1;cases e1;simp only[Sb] at e2;obtain⟨rfl,rfl⟩:=e2;refine⟨.slice none 0 0::aa,blks,locs,λp hp=>?_,λi l hl=>?_,h3,λσ hσ=>⟨_,_,rfl,⟨rfl,rfl,rfl⟩,h4 σ hσ⟩,λF hF=>⟨_,_,rfl,by rw[AT hne];exact⟨none,0,0,[],rfl,bj.gz _ _,by decide⟩,h5 F hF⟩,λW' hW sp hsp=>?_⟩
    ·obtain⟨a,b,r⟩:=h1 p hp;exact⟨(hlt _ a b).1,(hlt _ a b).2,r⟩
    ·obtain⟨a,b⟩:=h2 i l hl;exact hlt _ a b
    ·refine⟨[],q,⟨1,?_⟩,h6 W' hW sp (λp hp=>hsp p (by simpa using hp)),by simp⟩;rw[DataW.trod_step];unfold DataW.trodStep;simp[hS,Value.cells]
   ·simp only[Value.cells,R1,UP] at e1;cases e1;simp only[Sb] at hx;obtain⟨rfl,rfl⟩:=hx;simp only[SU] at hz;have reread:∀W',Below W.heap.size W W'->∀sp:Nat->Bool,(∀p∈MemPlace.row a zs.length++q,sp p.block=true)->DataW.TrodAll enc P W' 0 sp true (t::ts) (.slice (some a) len cap::vs') (.slice (lits .i64 (zs.take len)) (lits .i64 (zs.drop len))::ds') (MemPlace.row a zs.length++q):=by
     intro W' hW sp hsp;refine⟨_,q,⟨2,?_⟩,h6 W' hW sp (λp hp=>hsp p (by simp[hp])),rfl⟩;have hsp2:zs.length=if sp a.block then cap else len:=by
      rcases TP cap with h0 | h0
      ·have:len=0:=by omega
       rw[hz,h0,this];split<;>rfl
      ·have:sp a.block=true:=by
        have hmem:MemPlace.cell a.block a.off∈MemPlace.row a zs.length:=by
         unfold MemPlace.row;simp only[RI,RQ];exact⟨0,by omega,by simp⟩
        exact hsp _ (Sw _ hmem)
       rw[this,hz];rfl
     refine shut_ints 0 hS hI hc (R6 _) hl hm hsp2 (λi hi=>?_) hwf;have h7:=hcell i hi;have hblk:(a.add i).block<W.heap.size:=by
      unfold World.cell? at h7;split at h7
      ·rename_i hh;exact(RV.1 hh).1
      ·cases h7
     rw[hW.cell hblk];exact h7
    rcases TP cap with h0 | h0
    ·have hl0:len=0:=by omega
     subst h0;subst hl0
     refine⟨.slice (some ⟨k0,0,none⟩) 0 0::aa,blks,(k0,⟨a.block,0,0⟩)::locs,λp hp=>?_,λi l hl=>?_,h3,λσ hσ=>⟨_,_,rfl,⟨⟨a.block,0,0⟩,a,0,hσ k0 _ (by simp[dc]),rfl,rfl,AS _,λ_=>rfl,λh=>absurd rfl h⟩,h4 σ λi l hl=>hσ i l ?_⟩,
      λF hF=>⟨_,_,rfl,by rw[AT hne];exact⟨_,0,0,[],rfl,⟨rfl,.inl rfl,λ_=>rfl,λh=>(by cases h),λp hp=>(by cases hp;rfl),λj x hj=>(by simp at hj)⟩,by decide⟩,h5 F hF⟩,reread⟩
     ·obtain⟨a1,b1,r1,l,r2,r3⟩:=h1 p hp;refine⟨(hlt _ a1 b1).1,(hlt _ a1 b1).2,r1,l,?_,r3⟩;simp only[dc];rw[AT (by omega)];exact r2
     ·simp only[dc] at hl;split at hl
      ·rename_i e;subst e;simp
      ·obtain⟨a1,b1⟩:=h2 i l hl;exact hlt _ a1 b1
     ·have:=h2 i l hl;simp only[dc];rw[AT (by omega)];exact hl
    ·have hzne:zs≠[]:=by intro e;subst e;simp at hz;omega
     have hspot:a.spot=none:=by
      have:=hcell 0 (by omega);unfold World.cell? at this;split at this
      ·split at this
       ·cases this
       ·rename_i hs;have hs':a.spot.isSome=false:=by simpa [Addr.add] using hs
        cases hsp:a.spot with
        | none=>rfl
        | some s=>rw[hsp] at hs';cases hs'
      ·cases this
     obtain⟨l0,hl1,hl2,hl3,hl4⟩:=Ce (W:=W) (b:=a.block) (off:=a.off) (cs:=zs.map λn=>Value.int .i64 n) (by simpa using hzne) (λj v hj=>by
      rw[RM] at hj;cases hzj:zs[j]? with
      | none=>rw[hzj] at hj;cases hj
      | some z=>
       rw[hzj] at hj;simp at hj;subst hj;have hjl:j<zs.length:=(R9.1 hzj).1;have:=hcell j hjl
       rw[show a.add j=⟨a.block,a.off+j,none⟩ by
        obtain⟨ab,ao,asp⟩:=a;simp only at hspot;subst hspot;exact add_plain ab ao j] at this
       rw[this];simp[List.getD,hzj]) (by simp[uk])
     rw[RL] at hl3
     refine⟨.slice (some ⟨k0,0,none⟩) len 1::aa,(k0,.cells true (zs.map λn=>Value.int .i64 n))::blks,(k0,l0)::locs,λp hp=>?_,λi l hl=>?_,?_,λσ hσ=>⟨_,_,rfl,⟨l0,a,cap,hσ k0 _ (by simp[dc]),rfl,rfl,hl,λh=>(by cases h),λ_=>⟨?_,?_⟩⟩,h4 σ λi l hl=>hσ i l ?_⟩,
      λF hF=>⟨_,_,rfl,by rw[AT hne];exact⟨_,len,1,zs.take len,rfl,I4 (by omega) hzne (hF (k0,_) (RR ..)),by unfold maxLen at hm;omega⟩,h5 F (λp hp=>hF p (If _ hp))⟩,reread⟩
     ·rcases R0.1 hp with rfl | hp
      ·exact⟨AS _,by simp,by simp[qQ,uk],l0,by simp[dc],hl4⟩
      ·obtain⟨a1,b1,r1,l,r2,r3⟩:=h1 p hp;refine⟨(hlt _ a1 b1).1,(hlt _ a1 b1).2,r1,l,?_,r3⟩;simp only[dc];rw[AT (by omega)];exact r2
     ·simp only[dc] at hl;split at hl
      ·rename_i e;subst e;simp
      ·obtain⟨a1,b1⟩:=h2 i l hl;exact hlt _ a1 b1
     ·simp only[JN,SM];refine⟨λhm=>?_,h3⟩;obtain⟨p,hp,e⟩:=RI.1 hm;have:=(h1 p hp).1;omega
     ·rw[hl1,hl2];cases a;simp at hspot;subst hspot;rfl
     ·show l0.off+0+cap*1<=l0.size;omega
     ·have:=h2 i l hl;simp only[dc];rw[AT (by omega)];exact hl
end
end Go.Abs
/-
 Calls that are lent one slot and handed another,or that give back a new slot;raw values;tables.
-/
set_option linter.unusedVariables false
namespace Go.Abs
open Go
section
variable {C:Ctx}{T:RT}{n:Nat}{k:bC}{F:ar}{own:bh}{ops rest:List Oper}{o:Oper}{Q:bC->ar->bh->List Rec->Prop}{α:Type}{R:Ty α}
theorem WT.GV(p:Nat){f:FuncId}{fn:Func}{as_:Array Operand}{ts:Array TypeId}{args:List Value}{B:List (Nat×aE)}{P:Value->List (Nat×aE)->Prop}(hf:C.func f=some fn)(hb:fn.body.isSome=true)(hop:o.op=.call ⟨.value (.func f),as_,ts⟩)
  (hw:aF ops k o=some true) {dst:Nat} (hdst:o.dst=some dst) (hn:Nat.blt dst n=true) (hv:dI (aW C k) as_.toList=some args) (hp:own[p]?=some B)
  (spec:∀G,ar.le F G->(∀i b,(i,b)∈B->G i=some b)->Spec C f args G [] λ_ v o=>∃B',o=[B']/\P v B')
  (h:∀v B',P v B'->WT C n ops rest ((dst,v)::k) F (B'::own) (λk2 F2 own2 rs=>Q k2 F2 own2 (⟨F,own,F,B'::own,[]⟩::rs))) :
  WT C n ops (o::rest) k F own Q:=by
 refine WT.step (l:=[]) (by rw[hop];rfl) λe h' hk hs=>?_;obtain⟨v,h1,F1,oout,⟨m,hd⟩,hF,hs1,o',rfl,B',rfl,hp'⟩:=Spec.J1 spec (own.eraseIdx p) h' (hs.perm (cd hp));refine⟨v,h1,F,B'::own,⟨m,λN hN=>?_⟩,ar.le.refl F,?_,by rw[hdst,aA hn];exact h v B' hp'⟩
 ·unfold ep;rw[eC hk hw];have:aN C (aW C k) h' o.op=some (.call f args):=by
   rw[hop];simp only[aN,aW,hv,lD,hf,hb,RH];simp
  simp only[dU hk.eval this,hd N hN]
 ·refine(hs1.oZ hF).perm ?_;refine(List.Perm.swap _ _ _).trans (List.Perm.cons B' ?_);exact(cd hp).symm
theorem WT.wQ{f:FuncId}{fn:Func}{as_:Array Operand}{ts:Array TypeId}{args:List Value}{P:ar->Value->List (Nat×aE)->Prop}(hf:C.func f=some fn)(hb:fn.body.isSome=true)(hop:o.op=.call ⟨.value (.func f),as_,ts⟩)
  (hw:aF ops k o=some true) {dst:Nat} (hdst:o.dst=some dst) (hn:Nat.blt dst n=true) (hv:dI (aW C k) as_.toList=some args)
  (spec:Spec C f args F [] λF' v o=>∃B',o=[B']/\P F' v B')
  (h:∀F' v B',ar.le F F'->P F' v B'->WT C n ops rest ((dst,v)::k) F' (B'::own) (λk2 F2 own2 rs=>Q k2 F2 own2 (⟨F,own,F',B'::own,[]⟩::rs))) :
  WT C n ops (o::rest) k F own Q:=
 WT.Ix hf hb hop hw hdst hn hv spec (NO _) (λF' v oout hF hP=>by obtain⟨B',rfl,hp⟩:=hP;exact h F' v B' hF hp)
theorem WT.pq(p q:Nat){f:FuncId}{fn:Func}{as_:Array Operand}{ts:Array TypeId}{args:List Value}{B D:List (Nat×aE)}{fr:bh}{dg:List (Nat×aE)->bh}{P:Value->List (Nat×aE)->Prop}(hf:C.func f=some fn)(hb:fn.body.isSome=true)(hop:o.op=.call ⟨.value (.func f),as_,ts⟩)
  (hw:aF ops k o=some true) {dst:Nat} (hdst:o.dst=some dst) (hn:Nat.blt dst n=true) (hv:dI (aW C k) as_.toList=some args) (hp:own.Perm (B::D::fr)) (hupd:∀D',(B::D'::fr).Perm (dg D'))
  (spec:∀G,ar.le F G->(∀i b,(i,b)∈B->G i=some b)->Spec C f args G [D] λ_ v o=>∃D',o=[D']/\P v D')
  (h:∀v D',P v D'->WT C n ops rest ((dst,v)::k) F (dg D') (λk2 F2 own2 rs=>Q k2 F2 own2 (⟨F,own,F,dg D',[]⟩::rs))) :
  WT C n ops (o::rest) k F own Q:=by
 refine WT.step (l:=[]) (by rw[hop];rfl) λe h' hk hs=>?_;obtain⟨v,h1,F1,oout,⟨m,hd⟩,hF,hs1,o',rfl,D',rfl,hp'⟩:=Spec.J1 spec fr h' (hs.perm hp);refine⟨v,h1,F,dg D',⟨m,λN hN=>?_⟩,ar.le.refl F,(hs1.oZ hF).perm (hupd D'),by rw[hdst,aA hn];exact h v D' hp'⟩;unfold ep;rw[eC hk hw];have:aN C (aW C k) h' o.op=some (.call f args):=by
  rw[hop];simp only[aN,aW,hv,lD,hf,hb,RH];simp
 simp only[dU hk.eval this,hd N hN]
end
def xC:Ty Value where
 size:=1
 rel:=λ_ l x=>l=[x]/\Go.Abs.one x=true
 len:=λ_ _ _ h=>by rw[h.1];rfl
 one:=λ_ _ _ h=>by rw[h.1];simp[h.2]
 mono:=λ_ _ _ _ _ h=>h
theorem yw{F:ar}{cs vs:List Value}(h:aH xC F cs vs):cs=vs:=by
 induction h with
 | nil=>rfl
 | cons h1 _ ih=>rw[h1.1,ih];rfl
theorem uh{α:Type}(x:α)(a b c:List α):(x::(a++(b++c))).Perm (a++((b++[x])++c)):=by
 have h:=(T5 (a:=x) (l₁:=a++b) (l₂:=c)).symm;simpa using h
section
variable {α:Type}{K:vD α}
def Q8(M:List (List α))(i j:Nat)(x:α):List (List α):=match M[i]? with
 | some row=>M.set i (row.set j x)
 | none=>M
def J0(M:List (List α))(i j:Nat):Option α:=match M[i]? with
 | some row=>row[j]?
 | none=>none
structure nK(n m:Nat)(M:List (List α)):Prop where
 size:M.length=n
 row:∀r∈M,r.length=m
end
end Go.Abs
namespace Go.Abs
theorem uN{α:Type}(z y:α)(S bs X own:List α)(h:bs.Perm (y::X)):(z::((S++bs)++own)).Perm (y::((S++X)++(z::own))):=by
 have h1:((S++bs)++own).Perm (y::((S++X)++own)):=by
  have h2:(S++bs).Perm (y::(S++X)):=(h.append_left S).trans T5;simpa using h2.append_right own
 have h3:(z::((S++X)++own)).Perm ((S++X)++(z::own)):=T5.symm;exact(h1.cons z).trans ((List.Perm.swap y z _).trans (h3.cons y))
theorem nK.setRow{α:Type}{n m:Nat}{M:List (List α)}(h:nK n m M)(i:Nat){row:List α}(hr:row.length=m):nK n m (M.set i row):=by
 refine⟨by simp[h.size],λr hm=>?_⟩;rcases TS hm with hm | rfl
 ·exact h.row r hm
 ·exact hr
end Go.Abs
/-
 Maps of one's own;elements that are written whole;trees;calls that hand a slot over and freeze.
-/
set_option linter.unusedVariables false
namespace Go.Abs
open Go
def mz(T:RT)(ok:TypeId->Value->Bool):List (Nat×Nat)->List Value->Bool
 | [],_=>true
 | (off,ft)::fs,cs=>(match sA T cs ft off with
  | some a=>ok ft a
  | none=>false)&&mz T ok fs cs
def M0(T:RT):Nat->TypeId->Value->Bool
 | 0,_,_=>false
 | n+1,t,v=>
  match rowOf T t with
  | some r=>match r.d,v with
   | .struct fs,.agg ⟨cs⟩=>mz T (M0 T n) fs cs
   | .int _,v=>!cH v
   | .bool,v=>!cH v
   | .string,v=>!cH v
   | _,_=>false
  | none=>false
section
variable {C:Ctx}{T:RT}(hT:aS C T=true)
include hT
theorem pL{ok1 ok2:TypeId->Value->Bool}(he:∀t v,ok1 t v=true->ok2 t v=true):∀(fs:List Field) (cs:List Value),mz T ok1 (fs.map λf=>(f.offset,f.type)) cs=true->jZ C ok2 fs cs=true
 | [],_,_=>rfl
 | f::fs,cs,q=>by
  simp only[JN,mz,IN] at q;obtain⟨q1,q2⟩:=q;unfold jZ;rw[pL he fs cs q2,UF];split at q1
  ·rename_i a ha;rw[bO hT ha];exact he _ _ q1
  ·cases q1
theorem vg:∀(n:Nat) (t:TypeId) (v:Value),M0 T n t v=true->fm C n t v=true
 | 0,_,_,q=>by cases q
 | n+1,t,v,q=>by
  unfold M0 at q;split at q
  ·rename_i r hr;split at q
   ·rename_i fs cs hd;obtain⟨fs',hu,hfs⟩:=iY hT hr hd;unfold fm;simp only[hu];rw[hfs] at q;exact pL hT (vg n) _ _ q
   ·rename_i k hd;unfold fm;rw[Ba hT hr hd];simpa [wH] using q
   ·rename_i hd;unfold fm;rw[sf hT hr hd];simpa [wH] using q
   ·rename_i hd;unfold fm;rw[kj hT hr hd];simpa [wH] using q
   ·cases q
  ·cases q
theorem dZ{t k e:Nat}{r:Row}(q:rowOf T t=some r)(hd:r.d=.map k e):C.gZ t=some (.map k e):=by
 obtain⟨_,_,_,_,d,h4,h5⟩:=dG hT q;rw[hd] at h5;cases d<;>first | (cases h5;done) | skip
 simp only[mP,IN] at h5;rw[h4,R8 h5.1,R8 h5.2]
end
structure oF(C:Ctx)(t:TypeId)(κ:Type) where
 key:κ->Value
 ok:∀k,fm C 8 t (key k)=true
 eq:∀a b,(a=b/\uA C 8 t (key a) (key b)=some true)\/(a≠b/\uA C 8 t (key a) (key b)=some false)
abbrev cQ(κ:Type):=List (κ×Value)
def aG{C:Ctx}{t:TypeId}{κ:Type}(K:oF C t κ)(m:cQ κ):List (Value×Value):=m.map λp=>(K.key p.1,p.2)
def look{κ:Type}[DecidableEq κ]:cQ κ->κ->Option Value
 | [],_=>none
 | (k,v)::m,k2=>if k2=k then some v else look m k2
def dC{κ:Type}[DecidableEq κ]:cQ κ->κ->Value->cQ κ
 | [],k,v=>[(k,v)]
 | (k',v')::m,k,v=>if k=k' then (k',v)::m else (k',v')::dC m k v
theorem gf{κ:Type}[DecidableEq κ](k k2:κ)(v:Value):∀m:cQ κ,look (dC m k v) k2=if k2=k then some v else look m k2
 | []=>by simp only[dC,look]
 | (k',v')::m=>by
  simp only[dC];by_cases h:k=k'
  ·subst h;simp only[SU,look];by_cases h2:k2=k<;>simp[h2]
  ·simp only[h,Te,look,gf k k2 v m];by_cases h2:k2=k'
   ·subst h2;have:¬k2=k:=λe=>h e.symm;simp[this]
   ·simp[h2]
section
variable {C:Ctx}{T:RT}{t:TypeId}{κ:Type}[DecidableEq κ](K:oF C t κ)
theorem iS(k:κ):∀(m:cQ κ) (i:Nat),(look m k=none/\gw C t (K.key k) (aG K m) i=some none)\/
  ∃j v,look m k=some v/\gw C t (K.key k) (aG K m) i=some (some (i+j,v))/\(aG K m)[j]?=some (K.key k,v)/\∀v',(aG K m).set j (K.key k,v')=aG K (dC m k v')
 | [],i=>.inl ⟨rfl,rfl⟩
 | (k',v')::m,i=>by
  rcases K.eq k k' with ⟨rfl,h⟩ | ⟨hne,h⟩
  ·refine .inr ⟨0,v',by simp[look],?_,rfl,λw=>by simp[aG,dC]⟩;simp only[aG,JN,gw,h];rfl
  ·rcases iS k m (i+1) with ⟨h1,h2⟩ | ⟨j,v,h1,h2,h3,h4⟩
   ·refine .inl ⟨by simp only[look];rw[AT hne];exact h1,?_⟩;simp only[aG,JN,gw,h];exact h2
   ·refine .inr ⟨j+1,v,by simp only[look];rw[AT hne];exact h1,?_,h3,λw=>?_⟩
    ·simp only[aG,JN,gw,h];rw[show i+(j+1)=i+1+j by omega];exact h2
    ·have:=h4 w;simp only[aG] at this;simp only[aG,JN,Um,dC,AT hne,this]
theorem lE(k:κ)(v:Value):∀m:cQ κ,look m k=none->aG K (dC m k v)=aG K m++[(K.key k,v)]
 | [],_=>rfl
 | (k',v')::m,h=>by
  simp only[look] at h;split at h
  ·cases h
  ·rename_i hne;have:=lE k v m h;simp only[aG] at this;simp only[dC,AT hne,aG,JN,this];rfl
omit [DecidableEq κ] in
theorem iV(k:κ):cH (K.key k)=false:=mD (K.ok k)
omit [DecidableEq κ] in
theorem cS:∀m:cQ κ,alive (aG K m)=aG K m
 | []=>rfl
 | (k,v)::m=>by
  have:=cS m;simp only[aG] at this;simp only[aG,JN,alive,iV K k,RO,this]
omit [DecidableEq κ] in
theorem jl(x:Value×Value):∀(m:cQ κ) (j:Nat),aR x (aG K m) j=(aG K m).set j x
 | [],j=>by simp[aG,aR]
 | (k,v)::m,0=>by simp only[aG,JN,aR,iV K k,RO,Ul]
 | (k,v)::m,j+1=>by
  have:=jl x m j;simp only[aG] at this;simp only[aG,JN,aR,iV K k,RO,Um,this]
variable {n:Nat}{k:bC}{F:ar}{own:bh}{ops rest:List Oper}{o:Oper}{Q:bC->ar->bh->List Rec->Prop}
theorem WT.makeMap{tm:TypeId}{d:Nat}(hop:o.op=.makeMap tm none)(hw:aF ops k o=some true)(hdst:o.dst=some d)(hn:Nat.blt d n=true)
  (h:∀i,F i=none->WT C n ops rest ((d,.map (some i))::k) F ([(i,.map [])]::own) (λk2 F2 own2 rs=>Q k2 F2 own2 (⟨F,own,F,[(i,.map [])]::own,[]⟩::rs))):WT C n ops (o::rest) k F own Q:=by
 refine WT.new (mk:=λi=>.map (some i)) (l:=[]) hw (by rw[hop];rfl) (λh0 _=>?_) (λi hi=>by rw[hdst,aA hn];exact h i hi);rw[hop];rfl
theorem WT.LR(hT:aS C T=true)(p:Nat){tm et:TypeId}{mo ko:Operand}{i:Nat}{m:cQ κ}{key:κ}{r:Row}{z:Value}{B:List (Nat×aE)}{d:Nat}(hop:o.op=.lookup tm mo ko true)(hw:aF ops k o=some true)(hdst:o.dst=some d)(hn:Nat.blt d n=true)
  (hm:aW C k mo=some (.map (some i))) (hk:aW C k ko=some (K.key key)) (hp:own[p]?=some B) (hq:(i,aE.map (aG K m))∈B) (hr:rowOf T tm=some r) (hd:r.d=.map t et) (hz:jv T et=some z)
  (h1:∀v,look m key=some v->WT C n ops rest ((d,.tuple ⟨[v,.bool true]⟩)::k) F own (λk2 F2 own2 rs=>Q k2 F2 own2 (⟨F,own,F,own,[i]⟩::rs)))
  (h2:look m key=none->WT C n ops rest ((d,.tuple ⟨[z,.bool false]⟩)::k) F own (λk2 F2 own2 rs=>Q k2 F2 own2 (⟨F,own,F,own,[i]⟩::rs))):WT C n ops (o::rest) k F own Q:=by
 have hl:aX (aW C k) o.op=some [i]:=by rw[hop];simp only[aX,hm]
 rcases iS K key m 0 with ⟨h3,h4⟩ | ⟨j,v,h3,h4,_,_⟩
 ·refine WT.still hw hl (λh0 s0=>?_) (by rw[hdst,aA hn];exact h2 h3);have hb:=s0.has hp hq;rw[hop];simp only[aN,hm,hk,ji,dZ hT hr hd,iD,hb,cS K m,K.ok,h4,du hT hz];rfl
 ·refine WT.still hw hl (λh0 s0=>?_) (by rw[hdst,aA hn];exact h1 v h3);have hb:=s0.has hp hq;rw[hop];simp only[aN,hm,hk,ji,dZ hT hr hd,iD,hb,cS K m,K.ok,h4];rfl
theorem WT.jQ(hT:aS C T=true)(p:Nat){tm et:TypeId}{mo ko:Operand}{i:Nat}{m:cQ κ}{key:κ}{r:Row}{z:Value}{B:List (Nat×aE)}{d:Nat}(hop:o.op=.lookup tm mo ko false)(hw:aF ops k o=some true)(hdst:o.dst=some d)(hn:Nat.blt d n=true)
  (hm:aW C k mo=some (.map (some i))) (hk:aW C k ko=some (K.key key)) (hp:own[p]?=some B) (hq:(i,aE.map (aG K m))∈B) (hr:rowOf T tm=some r) (hd:r.d=.map t et) (hz:jv T et=some z)
  (h1:WT C n ops rest ((d,(look m key).getD z)::k) F own (λk2 F2 own2 rs=>Q k2 F2 own2 (⟨F,own,F,own,[i]⟩::rs))):WT C n ops (o::rest) k F own Q:=by
 have hl:aX (aW C k) o.op=some [i]:=by rw[hop];simp only[aX,hm]
 refine WT.still hw hl (λh0 s0=>?_) (by rw[hdst,aA hn];exact h1);have hb:=s0.has hp hq;rw[hop];rcases iS K key m 0 with ⟨h3,h4⟩ | ⟨j,v,h3,h4,_,_⟩
 ·simp only[aN,hm,hk,ji,dZ hT hr hd,iD,hb,cS K m,K.ok,h4,du hT hz,h3];rfl
 ·simp only[aN,hm,hk,ji,dZ hT hr hd,iD,hb,cS K m,K.ok,h4,h3];rfl
theorem WT.oh(hT:aS C T=true)(p q:Nat){tm et:TypeId}{mo ko vo:Operand}{i:Nat}{m:cQ κ}{key:κ}{v:Value}{r:Row}{B B':List (Nat×aE)}{aB:bh}(hop:o.op=.mapUpdate tm mo ko vo)(hw:aF ops k o=some true)(hdst:o.dst=none)
  (hm:aW C k mo=some (.map (some i))) (hk:aW C k ko=some (K.key key)) (hv:aW C k vo=some v) (hp:own[p]?=some B) (hq:B[q]?=some (i,aE.map (aG K m))) (hr:rowOf T tm=some r) (hd:r.d=.map t et)
  (hB:uV B q (i,.map (aG K (dC m key v)))=some B') (ho:ng own p B'=some aB)
  (h:WT C n ops rest k F aB (λk2 F2 own2 rs=>Q k2 F2 own2 (⟨F,own,F,aB,[]⟩::rs))):WT C n ops (o::rest) k F own Q:=by
 have e1:=py _ _ _ _ hB;have e2:=eu _ _ _ _ ho;subst e1;subst e2;refine WT.put (v:=dv) (b':=.map (aG K (dC m key v))) p q hp hq hw (by rw[hop];rfl) (λh0 s0 hb=>?_) (by rw[hdst];exact h);rw[hop];rcases iS K key m 0 with ⟨h3,h4⟩ | ⟨j,v2,h3,h4,h5,h6⟩
 ·simp only[aN,hm,hk,hv,cN,dZ hT hr hd,hb,cS K m,K.ok,h4,lE K key v m h3];rfl
 ·simp only[aN,hm,hk,hv,cN,dZ hT hr hd,hb,cS K m,jl K,K.ok,h4,RY,h5,fK,<-h6 v];rfl
end
section
variable {C:Ctx}{T:RT}{n:Nat}{k:bC}{F:ar}{own:bh}{ops rest:List Oper}{o:Oper}{Q:bC->ar->bh->List Rec->Prop}{α:Type}{R:Ty α}
theorem WT.cW(p:Nat){f:FuncId}{fn:Func}{as_:Array Operand}{ts:Array TypeId}{args:List Value}{B:List (Nat×aE)}{up:List (Nat×aE)->bh}{P:ar->Value->List (Nat×aE)->Prop}(hf:C.func f=some fn)(hb:fn.body.isSome=true)(hop:o.op=.call ⟨.value (.func f),as_,ts⟩)
  (hw:aF ops k o=some true) {dst:Nat} (hdst:o.dst=some dst) (hn:Nat.blt dst n=true) (hv:dI (aW C k) as_.toList=some args) (hp:own[p]?=some B) (hupd:∀B',ng own p B'=some (up B'))
  (spec:Spec C f args F [B] λF' v o=>∃B',o=[B']/\P F' v B')
  (h:∀F' v B',ar.le F F'->P F' v B'->WT C n ops rest ((dst,v)::k) F' (up B') (λk2 F2 own2 rs=>Q k2 F2 own2 (⟨F,own,F',up B',[]⟩::rs))) :
  WT C n ops (o::rest) k F own Q:=by
 refine WT.step (l:=[]) (by rw[hop];rfl) λe h' hk hs=>?_;obtain⟨v,h1,F1,oout,⟨m,hd⟩,hF,hs1,B',rfl,hp'⟩:=spec (own.eraseIdx p) h' (hs.perm (cd hp));have e1:=eu _ _ _ _ (hupd B');refine⟨v,h1,F1,up B',⟨m,λN hN=>?_⟩,hF,?_,by rw[hdst,aA hn];exact h F1 v B' hF hp'⟩
 ·unfold ep;rw[eC hk hw];have:aN C (aW C k) h' o.op=some (.call f args):=by
   rw[hop];simp only[aN,aW,hv,lD,hf,hb,RH];simp
  simp only[dU hk.eval this,hd N hN]
 ·rw[<-e1];exact hs1.perm (eZ B' hp).symm
end
end Go.Abs
/-
 Vectors: slices of one's own that keep their length,whose elements are read and written.
-/
set_option linter.unusedVariables false
namespace Go.Abs
open Go
structure dM{α:Type}(R:Ty α)(F:ar)(a:Option Addr)(n c:Nat)(B:List (Nat×aE))(xs:List α):Prop where
 len:n=xs.length
 cap:c=0\/c=R.size
 zero:c=0->n=0
 nil:a=none->n=0/\c=0
 spot:∀p,a=some p->p.spot=none
 el:xs=[]\/∃i cs,a=some ⟨i,0,none⟩/\B=[(i,.cells false cs)]/\aH R F cs xs/\0<R.size
section
variable {α:Type}{R:Ty α}{F G:ar}{a:Option Addr}{n c:Nat}{B:List (Nat×aE)}{xs:List α}
theorem dM.mono(h:dM R F a n c B xs)(hF:ar.le F G):dM R G a n c B xs:=
 ⟨h.len,h.cap,h.zero,h.nil,h.spot,h.el.imp id λ⟨i,cs,h1,h2,h3,h4⟩=>⟨i,cs,h1,h2,h3.mono hF,h4⟩⟩
theorem dR.vec(h:dR R F a n c B xs):dM R F a n c B xs:=by
 have hl:=h.len;rcases h.at_ with ⟨rfl,rfl,rfl,rfl⟩ | ⟨i,cs,rfl,rfl,rfl,h4,h5⟩
 ·exact⟨hl,.inl rfl,λ_=>hl,λ_=>⟨hl,rfl⟩,λp hp=>(by cases hp),.inl rfl⟩
 ·exact⟨hl,.inr rfl,λh=>(by omega),λh=>(by cases h),λp hp=>(by cases hp;rfl),.inr ⟨i,cs,rfl,rfl,h4,h5⟩⟩
theorem dM.arr(h:dM R F a n c B xs)(hG:ar.le F G)(hB:∀i b,(i,b)∈B->G i=some b):bj R G a n c xs:=by
 refine⟨h.len,h.cap,h.zero,h.nil,h.spot,λj x hj=>?_⟩;rcases h.el with rfl | ⟨i,cs,rfl,rfl,h4,h5⟩
 ·simp at hj
 ·obtain⟨l,h6,h7⟩:=(h4.mono hG).at j x hj;exact⟨i,0,false,cs,l,rfl,hB i _ (RR ..),by rw[RY];exact h6,h7⟩
theorem dM.at_(h:dM R F a n c B xs){j:Nat}{x:α}(hj:xs[j]?=some x):∃i cs,a=some ⟨i,0,none⟩/\B=[(i,.cells false cs)]/\aH R F cs xs/\0<R.size:=by
 rcases h.el with rfl | h
 ·simp at hj
 ·exact h
theorem dM.Qz(h:dM R F a n c B xs)(hne:xs≠[]):dR R F a n c B xs:=by
 rcases h.el with h0 | ⟨i,cs,h1,h2,h3,h4⟩
 ·exact absurd h0 hne
 ·refine⟨h.len,.inr ⟨i,cs,h1,?_,h2,h3,h4⟩⟩;rcases h.cap with h5 | h5
  ·have:=h.zero h5;rw[h.len] at this;exact absurd (SE this) hne
  ·exact h5
theorem aH.set{x y:α}{l:List Value}(hl:R.rel F l y):∀{xs:List α} {cs:List Value} {j:Nat},aH R F cs xs->xs[j]?=some x->aH R F (bk cs (j*R.size) l) (xs.set j y)
 | [],cs,j,h,hj=>by simp at hj
 | z::xs,cs,0,h,hj=>by
  cases h with
  | cons h1 h2=>
   rename_i l1 cs1;have e:bk (l1++cs1) (0*R.size) l=l++cs1:=by
    unfold bk;rw[UN,List.take_zero,UL,RY,R.len _ _ _ hl,<-R.len _ _ _ h1,List.drop_left]
   rw[e];exact .cons hl h2
 | z::xs,cs,j+1,h,hj=>by
  cases h with
  | cons h1 h2=>
   rename_i l1 cs1;have ih:=aH.set hl (j:=j) h2 (by simpa using hj);have e:bk (l1++cs1) ((j+1)*R.size) l=l1++bk cs1 (j*R.size) l:=by
    have hl1:=R.len _ _ _ h1;unfold bk;rw[show (j+1)*R.size=l1.length+j*R.size by rw[hl1,Ss];omega]
    rw[List.take_append,RN (show l1.length<=l1.length+j*R.size by omega),show l1.length+j*R.size-l1.length=j*R.size by omega,
     show l1.length+j*R.size+l.length=l1.length+(j*R.size+l.length) by omega,List.drop_append,SP (show l1.length<=l1.length+(j*R.size+l.length) by omega),
     show l1.length+(j*R.size+l.length)-l1.length=j*R.size+l.length by omega]
    simp
   rw[e];exact .cons h1 ih
theorem dM.set(h:dM R F a n c B xs){i:Nat}{cs:List Value}{j:Nat}{x y:α}{l:List Value}(hB:B=[(i,.cells false cs)])(hj:xs[j]?=some x)(hl:R.rel F l y) :
  dM R F a n c [(i,.cells false (bk cs (j*R.size) l))] (xs.set j y):=by
 obtain⟨i',cs',h1,h2,h3,h4⟩:=h.at_ hj;rw[hB] at h2;injection h2 with h2 _;injection h2 with h2 h5;injection h5 with _ h5;subst h2;subst h5;exact⟨by rw[h.len];simp,h.cap,h.zero,h.nil,h.spot,.inr ⟨i,_,h1,rfl,h3.set hl hj,h4⟩⟩
theorem zB{C:Ctx}{T:RT}(hT:aS C T=true){t off m:Nat}{r:Row}{cs l:List Value}(hr:rowOf T t=some r)(hd:r.d.agg=true)(hm:r.size=m)(hp:cf cs off m=some l):eX C cs t off=some (.agg ⟨l⟩):=by
 obtain⟨_,h1,_,_,d,h4,h5⟩:=dG hT hr;unfold eX;rw[h4];simp only[tK h5,hd,RH,h1,hm,hp];rfl
theorem Gs{cs l:List Value}{off:Nat}{v:Value}(hp:cf cs off 1=some l)(hl:l=[v]):cs[off]?=some v:=by
 subst hl;unfold cf at hp;cases e:(((cs.drop off).take 1).length==1) with
 | false=>simp only[e,RO] at hp;cases hp
 | true=>
  simp only[e,RH] at hp;have h:=BY hp;have:(cs.drop off)[0]?=some v:=by
   cases h2:cs.drop off with
   | nil=>rw[h2] at h;simp at h
   | cons x xs=>rw[h2] at h;simp at h;simp[h]
  simpa using this
end
section
variable {C:Ctx}{T:RT}{n:Nat}{k:bC}{F:ar}{own:bh}{ops rest:List Oper}{o:Oper}{Q:bC->ar->bh->List Rec->Prop}{α:Type}{R:Ty α}
theorem WT.bA(hT:aS C T=true){t e:Nat}{r:Row}{xo io:Operand}{a:Option Addr}{m c:Nat}{B:List (Nat×aE)}{xs:List α}{kd:IntKind}{j:Nat}(hv:dM R F a m c B xs)(hop:o.op=.indexAddr t xo io)(hw:aF ops k o=some true){dst:Nat}(hdst:o.dst=some dst)(hn:Nat.blt dst n=true)
  (hx:aW C k xo=some (.slice a m c)) (hi:aW C k io=some (.int kd (j:Nat))) (hr:rowOf T t=some r) (hd:r.d=.slice e) (hs:fL T e=some R.size) (hj:j<m)
  (h:∀b,a=some ⟨b,0,none⟩->WT C n ops rest ((dst,.pointer (some ⟨b,j*R.size,none⟩))::k) F own (λk2 F2 own2 rs=>Q k2 F2 own2 (⟨F,own,F,own,[]⟩::rs))):WT C n ops (o::rest) k F own Q:=by
 have hl:=hv.len;obtain⟨x,hx2⟩:∃x,xs[j]?=some x:=⟨_,Sh (by omega)⟩;obtain⟨i,cs,rfl,rfl,h3,h4⟩:=hv.at_ hx2;refine WT.eA hT hop hw hdst hn hx hi hr hd hs hj ?_;rw[RY];exact h i rfl
theorem WT.cz(hT:aS C T=true)(p:Nat){t:TypeId}{ao:Operand}{a:Option Addr}{m c j b:Nat}{B:List (Nat×aE)}{xs:List α}{x:α}{r:Row}(hv:dM R F a m c B xs)(ha:a=some ⟨b,0,none⟩)(hj:xs[j]?=some x)(hop:o.op=.load t ao)(hw:aF ops k o=some true){dst:Nat}(hdst:o.dst=some dst)(hn:Nat.blt dst n=true)
  (hao:aW C k ao=some (.pointer (some ⟨b,j*R.size,none⟩))) (hp:own[p]?=some B) (hr:rowOf T t=some r) (hd:r.d.agg=true) (hs:r.size=R.size)
  (h:∀l,R.rel F l x->WT C n ops rest ((dst,.agg ⟨l⟩)::k) F own (λk2 F2 own2 rs=>Q k2 F2 own2 (⟨F,own,F,own,[b]⟩::rs))):WT C n ops (o::rest) k F own Q:=by
 obtain⟨i,cs,h1,rfl,h3,h4⟩:=hv.at_ hj;rw[ha] at h1;injection h1 with h1;injection h1 with h1;subst h1;obtain⟨l,h5,h6⟩:=h3.at j x hj;exact WT.vj p hop hw hao hp (RR ..) (zB hT hr hd hs h5) (by rw[hdst,aA hn];exact h l h6)
theorem WT.qC(hT:aS C T=true)(p:Nat){t:TypeId}{ao x:Operand}{a:Option Addr}{m c j b:Nat}{B:List (Nat×aE)}{dg:List (Nat×aE)->bh}{xs:List α}{z y:α}{v:Value}(hv:dM R F a m c B xs)(ha:a=some ⟨b,0,none⟩)(hj:xs[j]?=some z)(hop:o.op=.store t ao x)(hw:aF ops k o=some true)(hd:o.dst=none)
  (hao:aW C k ao=some (.pointer (some ⟨b,j*R.size,none⟩))) (hx:aW C k x=some v) (hy:R.rel F v.cells.toList y) (hp:own[p]?=some B) (hupd:∀B',ng own p B'=some (dg B')) (hm:fL T t=some R.size)
  (h:∀B',dM R F a m c B' (xs.set j y)->WT C n ops rest k F (dg B') (λk2 F2 own2 rs=>Q k2 F2 own2 (⟨F,own,F,dg B',[b]⟩::rs))) :
  WT C n ops (o::rest) k F own Q:=by
 obtain⟨i,cs,h1,h2,h3,h4⟩:=hv.at_ hj;have h1':=h1;rw[ha] at h1';injection h1' with h1';injection h1' with h1';subst h1';have hset:=hv.set h2 hj hy;subst h2;have hlt:=(R9.1 hj).1;have hcl:=h3.len;have hmul:j*R.size+R.size<=cs.length:=by
  rw[hcl,<-Nat.succ_mul];exact OF _ hlt
 refine WT.store (C:=C) (n:=n) (k:=k) (F:=F) (Q:=Q) (rest:=rest) (ops:=ops) p 0 hop hw hao hx hp rfl (cq hT hm) (R.len _ _ _ hy) (R.one _ _ _ hy) hmul ?_;rw[hd];have e:=eu _ _ _ _ (hupd [(b,.cells false (bk cs (j*R.size) v.cells.toList))]);simp only[Ul];rw[e];exact h _ hset
end
end Go.Abs
/-
 Slices compared with nil,appended to an empty literal,copied into own blocks;numbers of 64 bits without sign.
-/
set_option linter.unusedVariables false
namespace Go.Abs
open Go
section
variable {C:Ctx}{T:RT}{n:Nat}{k:bC}{F:ar}{own:bh}{ops rest:List Oper}{o:Oper}{Q:bC->ar->bh->List Rec->Prop}{α:Type}{R:Ty α}
theorem WT.rZ(hT:aS C T=true){t ty:TypeId}{xo yo:Operand}{a:Option Addr}{m c e:Nat}{r:Row}(hop:o.op=.binOp .eql t xo yo ty)(hw:aF ops k o=some true){dst:Nat}(hdst:o.dst=some dst)(hn:Nat.blt dst n=true)
  (hx:aW C k xo=some (.slice a m c)) (hy:aW C k yo=some (.slice none 0 0)) (hr:rowOf T t=some r) (hd:r.d=.slice e)
  (h:WT C n ops rest ((dst,.bool a.isNone)::k) F own (λk2 F2 own2 rs=>Q k2 F2 own2 (⟨F,own,F,own,[]⟩::rs))):WT C n ops (o::rest) k F own Q:=by
 refine WT.still hw (by rw[hop];simp only[aX,hx,hy];rfl) (λh0 _=>?_) (by rw[hdst,aA hn];exact h);rw[hop];have hu:=bK hT hr hd;cases a<;>simp only[aN,hx,hy,kW,jD,RH,equalA,hu]<;>rfl
theorem WT.Af(hT:aS C T=true){p0:Addr}{d by_:Nat}{ys:List α}{ds:List Value}{t e:Nat}{ts:List TypeId}{r:Row}{z x:Value}{xo so:Operand}
  (hsp:p0.spot=none) (hop:o.op=.call ⟨.builtin .append,⟨[so,xo]⟩,⟨t::ts⟩⟩) (hw:aF ops k o=some true) {dst:Nat} (hdst:o.dst=some dst) (hn:Nat.blt dst n=true)
  (hs:aW C k so=some (.slice (some p0) 0 0)) (hx:aW C k xo=some x) (hr:rowOf T t=some r) (hd:r.d=.slice e) (hsz:fL T e=some R.size) (hz:jv T e=some z) (hby:nk T e=some by_)
  (hnew:∀h,St F own h->kl C h e R.size ts.head? x=some (d,ds)) (hds:aH R F ds ys) (hlen:d=ys.length) (hpos:0<R.size/\0<by_) (hroom:d*by_<=140737488355328)
  (h:∀a' c' B',dM R F a' d c' B' ys->(ys=[]->a'=some p0)->WT C n ops rest ((dst,(.slice a' d c'))::k) F (B'::own) (λk2 F2 own2 rs=>Q k2 F2 own2 (⟨F,own,F,B'::own,[]⟩::rs))) :
  WT C n ops (o::rest) k F own Q:=by
 obtain⟨b0,off0,sp0⟩:=p0;have:sp0=none:=hsp;subst this;have hl:aX (aW C k) o.op=some []:=by rw[hop];rfl
 have hv:dI (aW C k) [so,xo]=some [.slice (some ⟨b0,off0,none⟩) 0 0,x]:=by simp[dI,hs,hx]
 have hcond:(!(ds.length==d*R.size&&ds.all one&&Nat.blt 0 R.size&&Nat.blt 0 by_&&Nat.ble ((0+d)*by_) 140737488355328))=false:=by
  have h1:(ds.length==d*R.size)=true:=by rw[hds.len,hlen];simp
  have h2:Nat.blt 0 R.size=true:=Sf hpos.1;have h3:Nat.blt 0 by_=true:=Sf hpos.2;have h4:Nat.ble ((0+d)*by_) 140737488355328=true:=Sf (by rw[RY];exact hroom);rw[h1,h2,h3,h4,hds.one];rfl
 by_cases hd0:d=0
 ·subst hd0;have hy0:ys=[]:=SE hlen.symm;subst hy0
  refine WT.step (l:=[]) hl λe0 h0 hk hs0=>⟨.slice (some ⟨b0,off0,none⟩) 0 0,h0,F,[]::own,⟨0,λN _=>?_⟩,ar.le.refl F,hs0.le (ah.flat (NO _)),by
   rw[hdst,aA hn];exact h _ _ [] ⟨rfl,.inl rfl,λ_=>rfl,λh=>(by cases h),λp hp=>(by cases hp;rfl),.inl rfl⟩ (λ_=>rfl)⟩
  refine gF hk hw ?_ _;rw[hop];simp only[aN,hv,bR,gp,bK hT hr hd,cq hT hsz,du hT hz,gn hT hby,hnew h0 hs0,hcond,RO];simp
 ·have hd1:(d==0)=false:=by simpa using hd0
  refine WT.new (mk:=λi=>.slice (some ⟨i,0,none⟩) d R.size) (b:=.cells false ds) hw hl (λh0 s0=>?_) (λi hi=>?_)
  ·rw[hop];simp only[aN,hv,bR,gp,bK hT hr hd,cq hT hsz,du hT hz,gn hT hby,hnew h0 s0,hcond,hd1,RO];simp
  ·rw[hdst,aA hn];refine h _ _ _ ⟨hlen,.inr rfl,λh=>?_,λh=>(by cases h),λp hp=>(by cases hp;rfl),.inr ⟨i,ds,rfl,rfl,hds,hpos.1⟩⟩ (λh=>?_)
   ·have:=hpos.1;omega
   ·subst h;simp at hlen;omega
theorem Hu{F:ar}{a:Option Addr}{n c:Nat}{xs:List α}(hx:bj R F a n c xs)(hn:0<n) :
  ∃b off ro cs ds,a=some ⟨b,off,none⟩/\F b=some (.cells ro cs)/\cf cs off (n*R.size)=some ds/\aH R F ds xs:=by
 have partOk:∀{cs:List Value} {off n:Nat} {l:List Value},cf cs off n=some l->l=(cs.drop off).take n/\l.length=n:=by
  intro cs off n l h;unfold cf at h;cases e:(((cs.drop off).take n).length==n) with
  | false=>simp only[e,RO] at h;cases h
  | true=>
   simp only[e,RH] at h;obtain rfl:=BY h;exact⟨rfl,eq_of_beq e⟩
 have partApp:∀{cs:List Value} {off n m:Nat} {l1 l2:List Value},cf cs off n=some l1->cf cs (off+n) m=some l2->cf cs off (n+m)=some (l1++l2):=by
  intro cs off n m l1 l2 h1 h2;obtain⟨e1,k1⟩:=partOk h1;obtain⟨e2,k2⟩:=partOk h2;have e:(cs.drop off).take (n+m)=l1++l2:=by rw[List.take_add,UQ,<-e1,<-e2]
  unfold cf;simp only[e];have:((l1++l2).length==n+m)=true:=by simp[k1,k2]
  rw[this];rfl
 have hl:=hx.len;obtain⟨x0,h0⟩:∃x,xs[0]?=some x:=⟨_,Sh (by omega)⟩;obtain⟨b,off,ro,cs,l,h1,h2,h3,h4⟩:=hx.el 0 x0 h0;have main:∀k,k<=xs.length->0<k->∃ds,cf cs off (k*R.size)=some ds/\aH R F ds (xs.take k):=by
  intro k
  induction k with
  | zero=>intro _ h;omega
  | succ k ih=>
   intro hk _;obtain⟨y,hy⟩:∃x,xs[k]?=some x:=⟨_,Sh (by omega)⟩;obtain⟨b',off',ro',cs',l',g1,g2,g3,g4⟩:=hx.el k y hy;rw[h1] at g1;injection g1 with g1;injection g1 with g1 g1';subst g1;subst g1';rw[h2] at g2;injection g2 with g2;injection g2 with g2 g2';subst g2';have ht:xs.take (k+1)=xs.take k++[y]:=by rw[RZ,hy];rfl
   rw[ht];by_cases hk0:k=0
   ·subst hk0;exact⟨l',by simpa using g3,by simpa using aH.single g4⟩
   ·obtain⟨ds,d1,d2⟩:=ih (by omega) (by omega);exact⟨ds++l',by rw[Ss,S7];exact partApp d1 g3,d2.append (aH.single g4)⟩
 obtain⟨ds,d1,d2⟩:=main n (by omega) hn;rw[hl,T6] at d2;exact⟨b,off,ro,cs,ds,h1,h2,d1,d2⟩
theorem sL(hT:aS C T=true){a:Option Addr}{m c t e':Nat}{r:Row}{xs:List α}(hx:bj R F a m c xs)(hr:rowOf T t=some r)(hd:r.d=.slice e')(e:TypeId) :
  ∃ds,(∀(own:bh) h,St F own h->kl C h e R.size (some t) (.slice a m c)=some (m,ds))/\aH R F ds xs:=by
 by_cases hm:m=0
 ·subst hm;have:xs=[]:=SE hx.len.symm;subst this;refine⟨[],λown h s=>?_,.nil⟩;cases a with
  | none=>simp only[kl,bK hT hr hd,eT,jA,iE];rfl
  | some p=>
   obtain⟨b,off,sp⟩:=p;have:sp=none:=hx.spot _ rfl;subst this;simp only[kl,bK hT hr hd,eT,jA,iE];rfl
 ·obtain⟨b,off,ro,cs,ds,rfl,h2,h3,h4⟩:=Hu hx (by omega);refine⟨ds,λown h s=>?_,h4⟩;have hb:=s.uz _ _ h2;simp only[kl,bK hT hr hd,eT,jA,iE,jS,hb,h3,show (m==0)=false by simpa using hm];rfl
end
end Go.Abs
/-
 Numbers of 64 bits without sign;copies into own blocks.
-/
set_option linter.unusedVariables false
namespace Go.Abs
open Go
theorem iq{x:Int}(h:0<=x/\x<18446744073709551616):IntKind.u64.wrap x=x:=by
 unfold IntKind.wrap;have hs:IntKind.u64.signed=false:=rfl;have hb:IntKind.u64.bits=64:=rfl;have:(2:Int) ^ 64=18446744073709551616:=rfl;simp only[hs,hb,Uy,this];exact Uu h.1 h.2
theorem Da(x:Nat):IntKind.u64.wrap (x:Int)=((x % 18446744073709551616:Nat):Int):=by
 unfold IntKind.wrap;have hs:IntKind.u64.signed=false:=rfl;have hb:IntKind.u64.bits=64:=rfl;have:(2:Int) ^ 64=18446744073709551616:=rfl;simp only[hs,hb,Uy,this];simp
theorem KA{x:Nat}(h:x<18446744073709551616):(BitVec.ofInt 64 (x:Int)).toNat=x:=by
 rw[BitVec.toNat_ofInt];omega
section
variable {C:Ctx}{T:RT}{n:Nat}{k:bC}{F:ar}{own:bh}{ops rest:List Oper}{o:Oper}{Q:bC->ar->bh->List Rec->Prop}{α:Type}{R:Ty α}
theorem WT.Em{op:BinOp}{t ty:TypeId}{xo yo:Operand}{kd:IntKind}{x y:Int}{v:Value}(hop:o.op=.binOp op t xo yo ty)(hw:aF ops k o=some true){dst:Nat}(hdst:o.dst=some dst)(hn:Nat.blt dst n=true)(hx:aW C k xo=some (.int kd x))(hy:aW C k yo=some (.int kd y))
  (hsh:op≠.shl/\op≠.shr) (hr:dj op kd x y=some v)
  (h:WT C n ops rest ((dst,v)::k) F own (λk2 F2 own2 rs=>Q k2 F2 own2 (⟨F,own,F,own,[]⟩::rs))):WT C n ops (o::rest) k F own Q:=by
 refine WT.bin hop hw hx hy ?_ hsh (by rw[hdst,aA hn];exact h);cases op<;>first | exact absurd rfl hsh.1 | exact absurd rfl hsh.2 | (simp only[kW,SU];exact hr)
theorem WT.Kn{op:BinOp}{t ty:TypeId}{xo yo:Operand}{kd kd2:IntKind}{x y:Int}{v:Value}(hop:o.op=.binOp op t xo yo ty)(hw:aF ops k o=some true){dst:Nat}(hdst:o.dst=some dst)(hn:Nat.blt dst n=true)(hx:aW C k xo=some (.int kd x))(hy:aW C k yo=some (.int kd2 y))
  (hsh:op=.shl\/op=.shr) (hr:jH op kd x y=some v)
  (h:WT C n ops rest ((dst,v)::k) F own (λk2 F2 own2 rs=>Q k2 F2 own2 (⟨F,own,F,own,[]⟩::rs))):WT C n ops (o::rest) k F own Q:=by
 have hput:∀v,((dst,v)::k:bC)=cu n k o.dst v:=λv=>by rw[hdst,aA hn]
 rw[hput] at h;refine WT.still (l:=[]) hw (by rw[hop];simp only[aX,hx,hy];rfl) (λh0 _=>?_) h;rw[hop];rcases hsh with rfl | rfl<;>simp only[aN,hx,hy,kW,hr]<;>rfl
theorem OJ{x y:Nat}(hx:x<18446744073709551616)(hy:y<18446744073709551616):dj .and .u64 x y=some (.int .u64 ((x &&& y:Nat):Int)):=by
 have hb:IntKind.u64.bits=64:=rfl;have hlt:x &&& y<18446744073709551616:=T8 Nat.and_le_left hx;show some (Value.int .u64 (IntKind.u64.wrap ((BitVec.ofInt IntKind.u64.bits (x:Int) &&& BitVec.ofInt IntKind.u64.bits (y:Int)).toNat:Int)))=_;rw[hb,BitVec.toNat_and,KA hx,KA hy,iq (by omega)]
theorem Ij{x y:Nat}(hx:x<18446744073709551616)(hy:y<18446744073709551616):dj .xor .u64 x y=some (.int .u64 ((x ^^^ y:Nat):Int)):=by
 have hb:IntKind.u64.bits=64:=rfl;have hlt:x ^^^ y<2 ^ 64:=Nat.xor_lt_two_pow hx hy;have h2:(2:Nat) ^ 64=18446744073709551616:=rfl;rw[h2] at hlt;show some (Value.int .u64 (IntKind.u64.wrap ((BitVec.ofInt IntKind.u64.bits (x:Int) ^^^ BitVec.ofInt IntKind.u64.bits (y:Int)).toNat:Int)))=_;rw[hb,BitVec.toNat_xor,KA hx,KA hy,iq (by omega)]
theorem Oa{x y:Nat}(hx:x<18446744073709551616)(h:y<=x):dj .sub .u64 x y=some (.int .u64 ((x-y:Nat):Int)):=by
 simp only[dj];rw[iq (by omega)];congr 2;omega
theorem wM{x y:Nat}(hy:y<=64):jH .shr .u64 x y=some (.int .u64 ((x / 2 ^ y:Nat):Int)):=by
 have hb:IntKind.u64.bits=64:=rfl;unfold jH;rw[AT (by omega)];simp only[hb,T0,SN hy];congr 2;rw[Int.natCast_ediv,Int.natCast_pow];exact Int.fdiv_eq_ediv_of_nonneg _ (Int.pow_nonneg (by decide))
theorem Jh{x y:Nat}(hy:y<=64):jH .shl .u64 x y=some (.int .u64 (((x*2 ^ y) % 18446744073709551616:Nat):Int)):=by
 have hb:IntKind.u64.bits=64:=rfl;unfold jH;rw[AT (by omega)];simp only[hb,T0,SN hy];rw[show (x:Int)*2 ^ y=((x*2 ^ y:Nat):Int) by simp,Da]
end
end Go.Abs
namespace Go.Abs
open Go
theorem uq{C:Ctx}{T:RT}(hT:aS C T=true){t e s:Nat}{r:Row}(hr:rowOf T t=some r)(hd:r.d=.slice e)(hs:fL T e=some s){b off len c lo hi:Nat}{vlo vhi:Option Value}(h1:db vlo 0=some lo)(h2:db vhi len=some hi)(hlo:lo<=hi)(hhi:hi<=len)(hc:c=0\/c=s)(h:aq) :
  kT C h t (.slice (some ⟨b,off,none⟩) len c) vlo vhi none=some (.slice (some ⟨b,off+lo*s,none⟩) (hi-lo) c):=by
 have e1:Nat.ble lo hi=true:=Sf hlo;have e2:Nat.ble hi len=true:=Sf hhi;have e3:(c==0||c==s)=true:=by rcases hc with rfl | rfl<;>simp
 simp only[kT,bK hT hr hd,cq hT hs,h1,h2,e1,e2,e3,TJ,RH]
end Go.Abs
namespace Go.Abs
open Go
def PR{S:Type}(chg:S->bC)(k:bC)(ow:S->bh)(P:S->ar->Prop)(A:Ex->bC->ar->bh->Prop):Ex->bC->ar->bh->Prop
 | .normal,k',F',aB=>∃s,bI (chg s++k) k'/\ah (ow s) aB/\P s F'
 | x,k',F',aB=>A x k' F' aB
theorem AW.jn{C:Ctx}{n:Nat}{k:bC}{F:ar}{own:bh}{A:Ex->bC->ar->bh->Prop}{S:Type}(chg:S->bC)(ow:S->bh)(P:S->ar->Prop){a b:Code}(h1:AW C n a k F own (PR chg k ow P A))
  (h2:∀s F',ar.le F F'->P s F'->AW C n b (chg s++k) F' (ow s) A):AW C n (.seq a b) k F own A:=
 AW.seq (AW.mono h1 λx k' F' aB hF hx=>by
  cases x with
  | normal=>
   obtain⟨s,q1,q2,q3⟩:=hx;exact AW.weaken q1 (AW.le q2 (h2 s F' hF q3))
  | exit id=>exact hx
  | ret=>exact hx)
theorem AW.Fs{C:Ctx}{n:Nat}{k:bC}{F:ar}{own:bh}{A:Ex->bC->ar->bh->Prop}{S:Type}(chg:S->bC)(ow:S->bh)(P:S->ar->Prop){a b:Code}(h1:AW C n a k F own (PR chg k ow P A))
  (h2:∀s F',ar.le F F'->P s F'->AW C n b (chg s++k) F' (ow s) A):AW C n a k F own (m7 (λk' F' aB=>AW C n b k' F' aB A) A):=
 AW.mono h1 λx k' F' aB hF hx=>by
  cases x with
  | normal=>
   obtain⟨s,q1,q2,q3⟩:=hx;exact AW.weaken q1 (AW.le q2 (h2 s F' hF q3))
  | exit id=>exact hx
  | ret=>exact hx
end Go.Abs
/-
 Clearing a part of an own block;cells split in two.
-/
set_option linter.unusedVariables false
namespace Go.Abs
open Go
section
variable {α:Type}{R:Ty α}{F:ar}
theorem aH.split:∀{xs ys:List α} {cs:List Value},aH R F cs (xs++ys)->∃c1 c2,cs=c1++c2/\aH R F c1 xs/\aH R F c2 ys
 | [],ys,cs,h=>⟨[],cs,rfl,.nil,h⟩
 | x::xs,ys,cs,h=>by
  cases h with
  | cons h1 h2=>
   rename_i l cs1;obtain⟨c1,c2,rfl,h3,h4⟩:=aH.split (xs:=xs) h2;exact⟨l++c1,c2,by simp,.cons h1 h3,h4⟩
theorem aH.rows{l:List Value}{x:α}(h:R.rel F l x):∀n,aH R F (c7 l n) (List.replicate n x)
 | 0=>.nil
 | n+1=>.cons h (aH.rows h n)
theorem aH.P8{l:List Value}{x:α}(h:R.rel F l x){xs:List α}{cs:List Value}(hc:aH R F cs xs){i n:Nat}(hi:i+n=xs.length) :
  aH R F (bk cs (i*R.size) (c7 l n)) (xs.take i++List.replicate n x):=by
 rw[<-S2 i xs] at hc;obtain⟨c1,c2,rfl,h1,h2⟩:=hc.split;have l1:=h1.len;have l2:=h2.len;have l3:=(aH.rows (n:=n) h).len;rw[SX] at l3;have e1:c1.length=i*R.size:=by rw[l1,Sm,SN (by omega)]
 have e:bk (c1++c2) (i*R.size) (c7 l n)=c1++c7 l n:=by
  unfold bk;rw[<-e1,List.take_left,SP]
  ·simp
  ·rw[RP,l2,l3,List.length_drop];have:xs.length-i=n:=by omega
   rw[this];omega
 rw[e];exact h1.append (aH.rows h n)
end
section
variable {C:Ctx}{T:RT}{n:Nat}{k:bC}{F:ar}{own:bh}{ops rest:List Oper}{o:Oper}{Q:bC->ar->bh->List Rec->Prop}{α:Type}{R:Ty α}
theorem WT.MW(hT:aS C T=true)(p:Nat){t e:Nat}{ts:List TypeId}{r:Row}{xo:Operand}{a:Option Addr}{b m c c2 i l:Nat}{B:List (Nat×aE)}{dg:List (Nat×aE)->bh}{xs:List α}{x0:α}{z:Value}(hv:dM R F a m c B xs)(ha:a=some ⟨b,0,none⟩)(hop:o.op=.call ⟨.builtin .clear,⟨[xo]⟩,⟨t::ts⟩⟩)(hw:aF ops k o=some true)(hdst:o.dst=none)
  (hx:aW C k xo=some (.slice (some ⟨b,0+i*R.size,none⟩) l c2)) (hr:rowOf T t=some r) (hde:r.d=.slice e) (hz:jv T e=some z) (hz0:R.rel F z.cells.toList x0) (hl:i+l=m) (hpos:0<l) (hp:own[p]?=some B) (hupd:∀B',ng own p B'=some (dg B'))
  (h:∀B',dM R F a m c B' (xs.take i++List.replicate l x0)->WT C n ops rest k F (dg B') (λk2 F2 own2 rs=>Q k2 F2 own2 (⟨F,own,F,dg B',[]⟩::rs))):WT C n ops (o::rest) k F own Q:=by
 have hlen:=hv.len;obtain⟨x,hx0⟩:∃x,xs[0]?=some x:=⟨_,Sh (by omega)⟩;obtain⟨i',cs,h1,rfl,h3,h4⟩:=hv.at_ hx0;rw[ha] at h1;injection h1 with h1;injection h1 with h1;subst h1;have hlk:aX (aW C k) o.op=some []:=by rw[hop];rfl
 have hvs:dI (aW C k) [xo]=some [.slice (some ⟨b,0+i*R.size,none⟩) l c2]:=by simp[dI,hx]
 have hwipe:=h3.P8 hz0 (i:=i) (n:=l) (by omega);have hrl:=(aH.rows (n:=l) hz0).len;rw[SX] at hrl;have hcl:=h3.len;have hfit:(0+i*R.size)+(c7 z.cells.toList l).length<=cs.length:=by
  rw[hrl,hcl,<-hlen,<-hl,Ss];omega
 have e2:=eu _ _ _ _ (hupd [(b,.cells false (bk cs (i*R.size) (c7 z.cells.toList l)))]);refine WT.step (l:=[]) hlk λe0 h0 hk hs0=>?_;have hb:=hs0.has hp (RR ..);refine⟨dv,h0.put b (some (.cells false (bk cs (i*R.size) (c7 z.cells.toList l)))),F,dg [(b,.cells false (bk cs (i*R.size) (c7 z.cells.toList l)))],⟨0,λN _=>?_⟩,ar.le.refl F,?_,?_⟩
 ·refine gF hk hw ?_ _;rw[hop];have h5:(c7 z.cells.toList l).all one=true:=(aH.rows hz0 l).one;have h6:Nat.ble (i*R.size+(c7 z.cells.toList l).length) cs.length=true:=Sf (by rw[RY] at hfit;exact hfit);cases l with
  | zero=>omega
  | succ l=>
   simp only[aN,hvs,bR,nW,bK hT hr hde,du hT hz,hb,RY,h5,h6,TJ,RH];rfl
 ·have:=hs0.put hp (q:=0) rfl (.cells false (bk cs (i*R.size) (c7 z.cells.toList l)));simp only[Ul] at this;rw[e2] at this;exact this
 ·rw[hdst];exact h _ ⟨by simp;omega,hv.cap,hv.zero,hv.nil,hv.spot,.inr ⟨b,_,ha,rfl,hwipe,h4⟩⟩
end
end Go.Abs
/-
 Vectors inside a greater slot: read where they lie.
-/
set_option linter.unusedVariables false
namespace Go.Abs
open Go
section
variable {C:Ctx}{T:RT}{n:Nat}{k:bC}{F:ar}{own:bh}{ops rest:List Oper}{o:Oper}{Q:bC->ar->bh->List Rec->Prop}{α:Type}{R:Ty α}
end
theorem qM:∀(n:Nat) (l:List Nat),l.Nodup->(∀x∈l,x<n)->l.length<=n
 | 0,l,_,h=>by
  cases l with
  | nil=>simp
  | cons x l=>exact absurd (h x (RR ..)) (Tl _)
 | n+1,l,hn,h=>by
  have h1:=qM n (l.erase n) (hn.erase n) (λx hx=>by
   have h2:=h x (List.mem_of_mem_erase hx);have h3:x≠n:=by
    rintro rfl;exact(List.Nodup.not_mem_erase hn) hx
   omega)
  rw[List.length_erase] at h1;split at h1<;>omega
end Go.Abs
/-
 Sums and differences of naturals.
-/
set_option linter.unusedVariables false
namespace Go.Abs
open Go
section
variable {C:Ctx}{n:Nat}{k:bC}{F:ar}{own:bh}{ops rest:List Oper}{o:Oper}{Q:bC->ar->bh->List Rec->Prop}
theorem WT.Ou{d:Nat}{t ty:TypeId}{xo yo:Operand}{x:Nat}(hop:o.op=.binOp .add t xo yo ty)(hw:aF ops k o=some true)(hd:o.dst=some d)(hn:Nat.blt d n=true)(hx:aW C k xo=some (.int .i64 (x:Nat)))(hy:aW C k yo=some (.int .i64 1))(hb:x<=9223372036854775806)
  (h:WT C n ops rest ((d,.int .i64 ((x+1:Nat):Int))::k) F own (λk2 F2 own2 rs=>Q k2 F2 own2 (⟨F,own,F,own,[]⟩::rs))):WT C n ops (o::rest) k F own Q:=
 WT.M5 hop hw hd hn hx hy (by omega) (by rw[Int.natCast_add] at h;exact h)
theorem WT.Oh{d:Nat}{t ty:TypeId}{xo yo:Operand}{x y:Nat}(hop:o.op=.binOp .add t xo yo ty)(hw:aF ops k o=some true)(hd:o.dst=some d)(hn:Nat.blt d n=true)(hx:aW C k xo=some (.int .i64 (x:Nat)))(hy:aW C k yo=some (.int .i64 (y:Nat)))(hb:x+y<=9223372036854775807)
  (h:WT C n ops rest ((d,.int .i64 ((x+y:Nat):Int))::k) F own (λk2 F2 own2 rs=>Q k2 F2 own2 (⟨F,own,F,own,[]⟩::rs))):WT C n ops (o::rest) k F own Q:=
 WT.M5 hop hw hd hn hx hy (by omega) (by rw[Int.natCast_add] at h;exact h)
theorem WT.OR{d:Nat}{t ty:TypeId}{xo yo:Operand}{x:Nat}(hop:o.op=.binOp .sub t xo yo ty)(hw:aF ops k o=some true)(hd:o.dst=some d)(hn:Nat.blt d n=true)(hx:aW C k xo=some (.int .i64 (x:Nat)))(hy:aW C k yo=some (.int .i64 1))(hb:1<=x/\x<=9223372036854775807)
  (h:WT C n ops rest ((d,.int .i64 ((x-1:Nat):Int))::k) F own (λk2 F2 own2 rs=>Q k2 F2 own2 (⟨F,own,F,own,[]⟩::rs))):WT C n ops (o::rest) k F own Q:=
 WT.Jb hop hw hd hn hx hy (by omega) (by rw[show ((x-1:Nat):Int)=(x:Int)-1 by omega] at h;exact h)
theorem WT.Oj{d:Nat}{t ty:TypeId}{xo yo:Operand}{x y:Nat}(hop:o.op=.binOp .sub t xo yo ty)(hw:aF ops k o=some true)(hd:o.dst=some d)(hn:Nat.blt d n=true)(hx:aW C k xo=some (.int .i64 (x:Nat)))(hy:aW C k yo=some (.int .i64 (y:Nat)))(hb:y<=x/\x<=9223372036854775807)
  (h:WT C n ops rest ((d,.int .i64 ((x-y:Nat):Int))::k) F own (λk2 F2 own2 rs=>Q k2 F2 own2 (⟨F,own,F,own,[]⟩::rs))):WT C n ops (o::rest) k F own Q:=
 WT.Jb hop hw hd hn hx hy (by omega) (by rw[show ((x-y:Nat):Int)=(x:Int)-(y:Int) by omega] at h;exact h)
theorem WT.OP{d:Nat}{t ty:TypeId}{xo yo:Operand}{x:Nat}(hop:o.op=.binOp .mul t xo yo ty)(hw:aF ops k o=some true)(hd:o.dst=some d)(hn:Nat.blt d n=true)(hx:aW C k xo=some (.int .i64 2))(hy:aW C k yo=some (.int .i64 (x:Nat)))(hb:2*x<=9223372036854775807)
  (h:WT C n ops rest ((d,.int .i64 ((2*x:Nat):Int))::k) F own (λk2 F2 own2 rs=>Q k2 F2 own2 (⟨F,own,F,own,[]⟩::rs))):WT C n ops (o::rest) k F own Q:=
 WT.NQ hop hw hd hn hx hy (by omega) (by rw[Ui] at h;exact h)
theorem WT.mulL(l:Nat){d:Nat}{t ty:TypeId}{xo yo:Operand}{x:Nat}(hop:o.op=.binOp .mul t xo yo ty)(hw:aF ops k o=some true)(hd:o.dst=some d)(hn:Nat.blt d n=true)(hx:aW C k xo=some (.int .i64 (x:Nat)))(hy:aW C k yo=some (.int .i64 (l:Nat)))(hb:x*l<=9223372036854775807)
  (h:WT C n ops rest ((d,.int .i64 ((x*l:Nat):Int))::k) F own (λk2 F2 own2 rs=>Q k2 F2 own2 (⟨F,own,F,own,[]⟩::rs))):WT C n ops (o::rest) k F own Q:=
 WT.NQ hop hw hd hn hx hy (by rw[<-Ui];omega) (by rw[Ui] at h;exact h)
theorem WT.Es(l:Nat){d:Nat}{t ty:TypeId}{xo yo:Operand}{x:Nat}(hop:o.op=.binOp .quo t xo yo ty)(hw:aF ops k o=some true)(hd:o.dst=some d)(hn:Nat.blt d n=true)(hx:aW C k xo=some (.int .i64 (x:Nat)))(hy:aW C k yo=some (.int .i64 (l:Nat)))(hl:0<l)(hb:x<=9223372036854775807)
  (h:WT C n ops rest ((d,.int .i64 ((x / l:Nat):Int))::k) F own (λk2 F2 own2 rs=>Q k2 F2 own2 (⟨F,own,F,own,[]⟩::rs))):WT C n ops (o::rest) k F own Q:=by
 have h1:x / l<=x:=Un _ _;have h2:Int.tdiv (x:Int) (l:Int)=((x / l:Nat):Int):=by rw[Int.tdiv_eq_ediv_of_nonneg (by omega),Int.natCast_ediv]
 generalize x / l=q at h1 h2 h;refine WT.bin (r:=.int .i64 (q:Int)) hop hw hx hy ?_ (by simp) (by rw[hd,aA hn];exact h);simp only[kW,SU,dj];rw[AT (by omega),h2,wrap64 (by omega)]
end
end Go.Abs
/-
 A whole element that lies in a frozen block is read.
-/
set_option linter.unusedVariables false
namespace Go.Abs
open Go
section
variable {C:Ctx}{T:RT}{n:Nat}{k:bC}{F:ar}{own:bh}{ops rest:List Oper}{o:Oper}{Q:bC->ar->bh->List Rec->Prop}
theorem WT.J2(hT:aS C T=true){t:TypeId}{ao:Operand}{b off m:Nat}{ro:Bool}{cs l:List Value}{r:Row}(hb:F b=some (.cells ro cs))(hp:cf cs off m=some l)(hop:o.op=.load t ao)(hw:aF ops k o=some true){dst:Nat}(hdst:o.dst=some dst)(hn:Nat.blt dst n=true)
  (ha:aW C k ao=some (.pointer (some ⟨b,off,none⟩))) (hr:rowOf T t=some r) (hd:r.d.agg=true) (hm:r.size=m)
  (h:WT C n ops rest ((dst,.agg ⟨l⟩)::k) F own (λk2 F2 own2 rs=>Q k2 F2 own2 (⟨F,own,F,own,[b]⟩::rs))):WT C n ops (o::rest) k F own Q:=
 WT.ve hop hw ha hb (zB hT hr hd hm hp) (by rw[hdst,aA hn];exact h)
end
end Go.Abs
/-
 A byte of a string that stands in the text.
-/
set_option linter.unusedVariables false
namespace Go.Abs
open Go
theorem Ng{x:Int}(h:0<=x/\x<256):IntKind.u8.wrap x=x:=by
 unfold IntKind.wrap;have hs:IntKind.u8.signed=false:=rfl;have hb:IntKind.u8.bits=8:=rfl;have:(2:Int) ^ 8=256:=rfl;simp only[hs,hb,Uy,this];exact Uu h.1 h.2
section
variable {C:Ctx}{T:RT}{n:Nat}{k:bC}{F:ar}{own:bh}{ops rest:List Oper}{o:Oper}{Q:bC->ar->bh->List Rec->Prop}
theorem WT.IP(hT:aS C T=true){t:TypeId}{xo io:Operand}{s:ByteArray}{j m:Nat}{kd:IntKind}{r:Row}{f:Nat->Nat}(hop:o.op=.index t xo io)(hw:aF ops k o=some true){dst:Nat}(hdst:o.dst=some dst)(hn:Nat.blt dst n=true)
  (hx:aW C k xo=some (.string s)) (hi:aW C k io=some (.int kd (j:Nat))) (hr:rowOf T t=some r) (hd:r.d=.string) (hj:j<m) (htab:∀j,j<m->(s.data.toList[j]?).map UInt8.toNat=some (f j))
  (h:WT C n ops rest ((dst,.int .u8 (f j:Nat))::k) F own (λk2 F2 own2 rs=>Q k2 F2 own2 (⟨F,own,F,own,[]⟩::rs))):WT C n ops (o::rest) k F own Q:=by
 refine WT.still (l:=[]) hw (by rw[hop];rfl) (λh0 _=>?_) (by rw[hdst,aA hn];exact h);rw[hop];have h1:=htab j hj;cases hb:s.data.toList[j]? with
 | none=>rw[hb] at h1;cases h1
 | some b=>
  rw[hb] at h1;have h2:b.toNat=f j:=BY h1;simp only[aN,hx,hi,Aj,kj hT hr hd];rw[By (TO j),T0,hb];simp[h2]
end
end Go.Abs
/-
 The lesser of two numbers;slices that lie at the beginning of a longer block of one's own.
-/
set_option linter.unusedVariables false
namespace Go.Abs
open Go
structure Nb{α:Type}(R:Ty α)(F:ar)(b m:Nat)(B:List (Nat×aE))(xs:List α):Prop where
 len:m=xs.length
 pos:0<R.size
 bu:∃cs c6,B=[(b,.cells false cs)]/\cf cs 0 (m*R.size)=some c6/\aH R F c6 xs
section
variable {α:Type}{R:Ty α}{F G:ar}{b m:Nat}{B:List (Nat×aE)}{xs:List α}
theorem H7{cs l:List Value}{off n:Nat}(h:l=(cs.drop off).take n)(hl:l.length=n):cf cs off n=some l:=by
 unfold cf;rw[<-h];show (bif l.length==n then some l else none)=some l;rw[hl];simp
theorem Nb.mono(h:Nb R F b m B xs)(hF:ar.le F G):Nb R G b m B xs:=by
 obtain⟨h1,h2,cs,c6,h3,h4,h5⟩:=h;exact⟨h1,h2,cs,c6,h3,h4,h5.mono hF⟩
end
section
variable {C:Ctx}{T:RT}{n:Nat}{k:bC}{F:ar}{own:bh}{ops rest:List Oper}{o:Oper}{Q:bC->ar->bh->List Rec->Prop}{α:Type}{R:Ty α}
end
end Go.Abs
/-
 Appending to a vector;calls of function values that are handed a slot.
-/
set_option linter.unusedVariables false
namespace Go.Abs
open Go
section
variable {C:Ctx}{T:RT}{n:Nat}{k:bC}{F:ar}{own:bh}{ops rest:List Oper}{o:Oper}{Q:bC->ar->bh->List Rec->Prop}{α:Type}{R:Ty α}
theorem WT.Iz(hT:aS C T=true){p0:Addr}{d by_:Nat}{ys:List α}{ds:List Value}{t e:Nat}{ts:List TypeId}{r:Row}{z x:Value}{xo so:Operand}
  (hsp:p0.spot=none) (hop:o.op=.call ⟨.builtin .append,⟨[so,xo]⟩,⟨t::ts⟩⟩) (hw:aF ops k o=some true) {dst:Nat} (hdst:o.dst=some dst) (hn:Nat.blt dst n=true)
  (hs:aW C k so=some (.slice (some p0) 0 0)) (hx:aW C k xo=some x) (hr:rowOf T t=some r) (hd:r.d=.slice e) (hsz:fL T e=some R.size) (hz:jv T e=some z) (hby:nk T e=some by_)
  (hnew:∀h,St F own h->kl C h e R.size ts.head? x=some (d,ds)) (hds:aH R F ds ys) (hlen:d=ys.length) (hpos:0<R.size/\0<by_) (hroom:d*by_<=140737488355328)
  (h:∀a' c' B',dM R F a' d c' B' ys->(ys=[]->c'=0)->WT C n ops rest ((dst,(.slice a' d c'))::k) F (B'::own) (λk2 F2 own2 rs=>Q k2 F2 own2 (⟨F,own,F,B'::own,[]⟩::rs))) :
  WT C n ops (o::rest) k F own Q:=by
 obtain⟨b0,off0,sp0⟩:=p0;have:sp0=none:=hsp;subst this;have hl:aX (aW C k) o.op=some []:=by rw[hop];rfl
 have hv:dI (aW C k) [so,xo]=some [.slice (some ⟨b0,off0,none⟩) 0 0,x]:=by simp[dI,hs,hx]
 have hcond:(!(ds.length==d*R.size&&ds.all one&&Nat.blt 0 R.size&&Nat.blt 0 by_&&Nat.ble ((0+d)*by_) 140737488355328))=false:=by
  have h1:(ds.length==d*R.size)=true:=by rw[hds.len,hlen];simp
  have h2:Nat.blt 0 R.size=true:=Sf hpos.1;have h3:Nat.blt 0 by_=true:=Sf hpos.2;have h4:Nat.ble ((0+d)*by_) 140737488355328=true:=Sf (by rw[RY];exact hroom);rw[h1,h2,h3,h4,hds.one];rfl
 by_cases hd0:d=0
 ·subst hd0;have hy0:ys=[]:=SE hlen.symm;subst hy0
  refine WT.step (l:=[]) hl λe0 h0 hk hs0=>⟨.slice (some ⟨b0,off0,none⟩) 0 0,h0,F,[]::own,⟨0,λN _=>?_⟩,ar.le.refl F,hs0.le (ah.flat (NO _)),by
   rw[hdst,aA hn];exact h _ _ [] ⟨rfl,.inl rfl,λ_=>rfl,λh=>(by cases h),λp hp=>(by cases hp;rfl),.inl rfl⟩ (λ_=>rfl)⟩
  refine gF hk hw ?_ _;rw[hop];simp only[aN,hv,bR,gp,bK hT hr hd,cq hT hsz,du hT hz,gn hT hby,hnew h0 hs0,hcond,RO];simp
 ·have hd1:(d==0)=false:=by simpa using hd0
  refine WT.new (mk:=λi=>.slice (some ⟨i,0,none⟩) d R.size) (b:=.cells false ds) hw hl (λh0 s0=>?_) (λi hi=>?_)
  ·rw[hop];simp only[aN,hv,bR,gp,bK hT hr hd,cq hT hsz,du hT hz,gn hT hby,hnew h0 s0,hcond,hd1,RO];simp
  ·rw[hdst,aA hn];refine h _ _ _ ⟨hlen,.inr rfl,λh=>?_,λh=>(by cases h),λp hp=>(by cases hp;rfl),.inr ⟨i,ds,rfl,rfl,hds,hpos.1⟩⟩ (λh=>?_)
   ·have:=hpos.1;omega
   ·subst h;simp at hlen;omega
theorem ah.Oq{X B:List (Nat×aE)}{p:Nat}(hp:own[p]?=some B):ah (own.set p X) (X::own):=by
 have h1:ah (X::own.eraseIdx p) (X::own):=ah.cons _ (ah.sub (List.eraseIdx_sublist _ _));exact ah.trans (ah.perm (eZ X hp).symm) h1
theorem WT.KH(hT:aS C T=true)(p:Nat){B:List (Nat×aE)}{dg:List (Nat×aE)->bh}{a:Option Addr}{m c d by_:Nat}{xs ys:List α}{ds:List Value}{t e:Nat}{ts:List TypeId}{r:Row}{z x:Value}{xo so:Operand}
  (hb:dM R F a m c B xs) (hc:xs=[]->c=0) (hp:own[p]?=some B) (hupd:∀B',ng own p B'=some (dg B')) (hop:o.op=.call ⟨.builtin .append,⟨[so,xo]⟩,⟨t::ts⟩⟩) (hw:aF ops k o=some true) {dst:Nat} (hdst:o.dst=some dst) (hn:Nat.blt dst n=true)
  (hs:aW C k so=some (.slice a m c)) (hx:aW C k xo=some x) (hr:rowOf T t=some r) (hd:r.d=.slice e) (hsz:fL T e=some R.size) (hz:jv T e=some z) (hby:nk T e=some by_)
  (hnew:∀h,St F own h->kl C h e R.size ts.head? x=some (d,ds)) (hds:aH R F ds ys) (hlen:d=ys.length) (hpos:0<d/\0<R.size/\0<by_) (hroom:(m+d)*by_<=140737488355328)
  (h:∀a' c' B',dR R F a' (m+d) c' B' (xs++ys)->WT C n ops rest ((dst,.slice a' (m+d) c')::k) F (dg B') (λk2 F2 own2 rs=>Q k2 F2 own2 (⟨F,own,F,dg B',[]⟩::rs))) :
  WT C n ops (o::rest) k F own Q:=by
 by_cases hne:xs=[]
 ·subst hne;obtain rfl:=hc rfl;have hm:m=0:=hb.len;subst hm;have hl:aX (aW C k) o.op=some []:=by rw[hop];rfl
  have hcond:(!(ds.length==d*R.size&&ds.all one&&Nat.blt 0 R.size&&Nat.blt 0 by_&&Nat.ble ((0+d)*by_) 140737488355328))=false:=by
   have h1:(ds.length==d*R.size)=true:=by rw[hds.len,hlen];simp
   have h2:Nat.blt 0 R.size=true:=Sf hpos.2.1;have h3:Nat.blt 0 by_=true:=Sf hpos.2.2;have h4:Nat.ble ((0+d)*by_) 140737488355328=true:=Sf hroom;rw[h1,h2,h3,h4,hds.one];rfl
  have hd1:(d==0)=false:=by have:=hpos.1;cases d with | zero=>omega | succ d=>rfl
  have hv:dI (aW C k) [so,xo]=some [.slice a 0 0,x]:=by simp[dI,hs,hx]
  refine WT.step (l:=[]) hl λe0 h0 hk hs0=>?_;obtain⟨s1,s2,s3⟩:=hs0.alloc (.cells false ds);have e1:=eu _ _ _ _ (hupd [(h0.next,.cells false ds)])
  refine⟨.slice (some ⟨h0.next,0,none⟩) (0+d) R.size,h0.alloc (.cells false ds),F,dg [(h0.next,.cells false ds)],⟨0,λN _=>?_⟩,ar.le.refl F,?_,?_⟩
  ·refine gF hk hw ?_ _;rw[hop];cases a with
   | none=>
    simp only[aN,hv,bR,gp,bK hT hr hd,cq hT hsz,du hT hz,gn hT hby,hnew h0 hs0,hcond,hd1,RO];simp
   | some q=>
    obtain⟨b0,off0,sp0⟩:=q;have:sp0=none:=hb.spot _ rfl;subst this;simp only[aN,hv,bR,gp,bK hT hr hd,cq hT hsz,du hT hz,gn hT hby,hnew h0 hs0,hcond,hd1,RO];simp
  ·rw[<-e1];exact s1.le (ah.Oq hp)
  ·rw[hdst,aA hn];exact h _ _ _ ⟨by simp;exact hlen,.inr ⟨h0.next,ds,rfl,rfl,rfl,by simpa using hds,hpos.2.1⟩⟩
 ·exact WT.bX hT p (hb.Qz hne) hp hupd hop hw hdst hn hs hx hr hd hsz hz hby hnew hds hlen hpos hroom h
theorem WT.Fx(p:Nat){f:FuncId}{fn:Func}{fo:Operand}{as_:Array Operand}{ts:Array TypeId}{args args' first capt:List Value}{B:List (Nat×aE)}{up:List (Nat×aE)->bh}{P:ar->Value->List (Nat×aE)->Prop}(hf:C.func f=some fn)(hb:fn.body.isSome=true)(hop:o.op=.call ⟨.value fo,as_,ts⟩)
  (hw:aF ops k o=some true) {dst:Nat} (hdst:o.dst=some dst) (hn:Nat.blt dst n=true) (hfo:aW C k fo=some (.func (.func f) ⟨first⟩ ⟨capt⟩)) (hv:dI (aW C k) as_.toList=some args) (hargs:first++args++capt=args') (hp:own[p]?=some B) (hupd:∀B',ng own p B'=some (up B'))
  (spec:Spec C f args' F [B] λF' v o=>∃B',o=[B']/\P F' v B')
  (h:∀F' v B',ar.le F F'->P F' v B'->WT C n ops rest ((dst,v)::k) F' (up B') (λk2 F2 own2 rs=>Q k2 F2 own2 (⟨F,own,F',up B',[]⟩::rs))) :
  WT C n ops (o::rest) k F own Q:=by
 subst hargs;refine WT.step (l:=[]) (by rw[hop];rfl) λe h' hk hs=>?_;obtain⟨v,h1,F1,oout,⟨m,hd⟩,hF,hs1,B',rfl,hp'⟩:=spec (own.eraseIdx p) h' (hs.perm (cd hp));have e1:=eu _ _ _ _ (hupd B');refine⟨v,h1,F1,up B',⟨m,λN hN=>?_⟩,hF,?_,by rw[hdst,aA hn];exact h F1 v B' hF hp'⟩
 ·unfold ep;rw[eC hk hw];have:aN C (aW C k) h' o.op=some (.call f (first++args++capt)):=by
   rw[hop];simp only[aN,hfo,hv,qi hf hb]
  simp only[dU hk.eval this,hd N hN]
 ·rw[<-e1];exact hs1.perm (eZ B' hp).symm
end
end Go.Abs
/-
 Entries of map literals.
-/
set_option linter.unusedVariables false
namespace Go.Abs
open Go
section
variable {C:Ctx}{T:RT}{t:TypeId}{κ:Type}[DecidableEq κ](K:oF C t κ)
variable {n:Nat}{k:bC}{F:ar}{own:bh}{ops rest:List Oper}{o:Oper}{Q:bC->ar->bh->List Rec->Prop}
theorem WT.Ad(hT:aS C T=true)(p q:Nat){tm et:TypeId}{mo ko vo:Operand}{i:Nat}{m:cQ κ}{key:κ}{v:Value}{r:Row}{B B':List (Nat×aE)}{aB:bh}(hop:o.op=.insert tm mo ko vo)(hw:aF ops k o=some true)(hdst:o.dst=none)
  (hm:aW C k mo=some (.map (some i))) (hk:aW C k ko=some (K.key key)) (hv:aW C k vo=some v) (hp:own[p]?=some B) (hq:B[q]?=some (i,aE.map (aG K m))) (hr:rowOf T tm=some r) (hd:r.d=.map t et)
  (hB:uV B q (i,.map (aG K (dC m key v)))=some B') (ho:ng own p B'=some aB)
  (h:WT C n ops rest k F aB (λk2 F2 own2 rs=>Q k2 F2 own2 (⟨F,own,F,aB,[]⟩::rs))):WT C n ops (o::rest) k F own Q:=by
 have e1:=py _ _ _ _ hB;have e2:=eu _ _ _ _ ho;subst e1;subst e2;refine WT.put (v:=dv) (b':=.map (aG K (dC m key v))) p q hp hq hw (by rw[hop];rfl) (λh0 s0 hb=>?_) (by rw[hdst];exact h);rw[hop];rcases iS K key m 0 with ⟨h3,h4⟩ | ⟨j,v2,h3,h4,h5,h6⟩
 ·simp only[aN,hm,hk,hv,cN,dZ hT hr hd,hb,cS K m,K.ok,h4,lE K key v m h3];rfl
 ·simp only[aN,hm,hk,hv,cN,dZ hT hr hd,hb,cS K m,jl K,K.ok,h4,RY,h5,fK,<-h6 v];rfl
end
end Go.Abs
/-
 Method calls,interfaces,addresses held against each other;maps with marks of what was deleted;own slices at the beginning of a longer block.
-/
set_option linter.unusedVariables false
namespace Go.Abs
open Go
structure GB{α:Type}(R:Ty α)(F:ar)(a:Option Addr)(n c:Nat)(B:List (Nat×aE))(xs:List α):Prop where
 len:n=xs.length
 at_:(xs=[]/\a=none/\c=0/\B=[])\/∃i cs rest,a=some ⟨i,0,none⟩/\c=R.size/\B=[(i,.cells false (cs++rest))]/\aH R F cs xs/\0<R.size
section
variable {α:Type}{R:Ty α}{F G:ar}{a:Option Addr}{n c:Nat}{B:List (Nat×aE)}{xs:List α}
theorem GB.mono(h:GB R F a n c B xs)(hF:ar.le F G):GB R G a n c B xs:=
 ⟨h.len,h.at_.imp id λ⟨i,cs,rest,h1,h2,h3,h4,h5⟩=>⟨i,cs,rest,h1,h2,h3,h4.mono hF,h5⟩⟩
theorem aH.take{cs:List Value}{xs:List α}(h:aH R F cs xs):∀k,k<=xs.length->aH R F (cs.take (k*R.size)) (xs.take k):=by
 induction h with
 | nil=>intro k hk;simp;exact .nil
 | @cons l cs x xs h1 h2 ih=>
  intro k hk;cases k with
  | zero=>simp;exact .nil
  | succ k=>
   have hl:=R.len _ _ _ h1;have e:(l++cs).take ((k+1)*R.size)=l++cs.take (k*R.size):=by
    rw[show (k+1)*R.size=l.length+k*R.size by rw[hl,Ss];omega,List.take_append,RN (by omega)];congr 1;congr 1;omega
   rw[e,List.take_succ_cons];exact .cons h1 (ih k (by simpa using hk))
theorem GB.take(h:GB R F a n c B xs){k:Nat}(hk:k<=n):GB R F a k c B (xs.take k):=by
 have hl:=h.len;refine⟨by simp;omega,?_⟩;rcases h.at_ with ⟨rfl,h2,h3,h4⟩ | ⟨i,cs,rest,h1,h2,h3,h4,h5⟩
 ·exact .inl ⟨by simp,h2,h3,h4⟩
 ·refine .inr ⟨i,cs.take (k*R.size),cs.drop (k*R.size)++rest,h1,h2,?_,h4.take k (by omega),h5⟩;rw[<-SL,S2];exact h3
end
section
variable {C:Ctx}{T:RT}{n:Nat}{k:bC}{F:ar}{own:bh}{ops rest:List Oper}{o:Oper}{Q:bC->ar->bh->List Rec->Prop}{α:Type}{R:Ty α}
end
section
variable {C:Ctx}{T:RT}{n:Nat}{k:bC}{F:ar}{own:bh}{ops rest:List Oper}{o:Oper}{Q:bC->ar->bh->List Rec->Prop}
end
section
variable {C:Ctx}{T:RT}{n:Nat}{k:bC}{F:ar}{own:bh}{ops rest:List Oper}{o:Oper}{Q:bC->ar->bh->List Rec->Prop}{α:Type}{R:Ty α}
end
end Go.Abs
/-
 Maps with marks of what was deleted: looking up,setting,deleting,entries.
-/
set_option linter.unusedVariables false
namespace Go.Abs
open Go
section
variable {C:Ctx}{T:RT}{t:TypeId}{κ:Type}[DecidableEq κ](K:oF C t κ)
variable {n:Nat}{k:bC}{F:ar}{own:bh}{ops rest:List Oper}{o:Oper}{Q:bC->ar->bh->List Rec->Prop}
end
end Go.Abs
/-
 Entries of maps that are changed where they lie: 'm[k] |= v'.
-/
set_option linter.unusedVariables false
namespace Go.Abs
open Go
section
variable {C:Ctx}{T:RT}{t:TypeId}{κ:Type}[DecidableEq κ](K:oF C t κ)
def jC:cQ κ->κ->Nat
 | [],_=>0
 | (k,_)::m,k2=>if k2=k then 0 else jC m k2+1
def my(m:cQ κ)(k:κ)(z:Value):cQ κ:=if look m k=none then dC m k z else m
theorem te(k:κ):∀(m:cQ κ) (i:Nat),(look m k=none->gw C t (K.key k) (aG K m) i=some none/\jC m k=m.length)/\
  (∀v,look m k=some v->gw C t (K.key k) (aG K m) i=some (some (i+jC m k,v))/\(aG K m)[jC m k]?=some (K.key k,v)/\∀v',(aG K m).set (jC m k) (K.key k,v')=aG K (dC m k v'))
 | [],i=>⟨λ_=>⟨rfl,rfl⟩,λv h=>by cases h⟩
 | (k',v')::m,i=>by
  rcases K.eq k k' with ⟨rfl,h⟩ | ⟨hne,h⟩
  ·refine⟨λh2=>by simp[look] at h2,λv h2=>?_⟩;have h2:v'=v:=by simpa [look] using h2
   subst h2;refine⟨?_,?_,λw=>?_⟩
   ·simp only[aG,JN,gw,h,jC,By];rfl
   ·simp only[jC,By,aG,JN];rfl
   ·simp[aG,dC,jC]
  ·obtain⟨h1,h2⟩:=te k m (i+1);refine⟨λh3=>?_,λv h3=>?_⟩
   ·have h3:look m k=none:=by simpa [look,hne] using h3
    obtain⟨h4,h5⟩:=h1 h3;refine⟨?_,?_⟩
    ·simp only[aG,JN,gw,h];exact h4
    ·simp only[jC,AT hne,h5,R4]
   ·have h3:look m k=some v:=by simpa [look,hne] using h3
    obtain⟨h4,h5,h6⟩:=h2 v h3;refine⟨?_,?_,λw=>?_⟩
    ·simp only[aG,JN,gw,h,jC,AT hne];rw[show i+(jC m k+1)=i+1+jC m k by omega];exact h4
    ·simp only[jC,AT hne,aG,JN,TA];exact h5
    ·have:=h6 w;simp only[aG] at this;simp only[jC,AT hne,aG,JN,Um,dC,this]
omit [DecidableEq κ] in
theorem yW:∀(m:cQ κ) (s j:Nat),j<m.length->(stamps s (aG K m))[j]?=some (s+j)
 | [],_,_,h=>by simp at h
 | (k,v)::m,s,0,_=>by simp only[aG,JN,stamps,iV K k,RO,UR,Tq]
 | (k,v)::m,s,j+1,h=>by
  have:=yW m (s+1) j (by simpa using h);simp only[aG] at this;simp only[aG,JN,stamps,iV K k,RO,TA,this];congr 1;omega
omit [DecidableEq κ] in
theorem uv:∀(m:cQ κ) (s j:Nat),j<m.length->(stamps s (aG K m)).findIdx? (λ(b:Nat)=>decide ((b:Int)=((s+j:Nat):Int)))=some j
 | [],_,_,h=>by simp at h
 | (k,v)::m,s,0,_=>by simp[aG,stamps,iV K k,List.findIdx?_cons]
 | (k,v)::m,s,j+1,h=>by
  have:=uv m (s+1) j (by simpa using h);simp only[aG] at this;have hne:¬((s:Int)=((s+(j+1):Nat):Int)):=by omega
  have e:s+1+j=s+(j+1):=by omega
  rw[e] at this;simp only[aG,JN,stamps,iV K k,RO,List.findIdx?_cons,U1 hne,this];rfl
theorem zH:∀(m:cQ κ) (k:κ) (v:Value),look m k=some v->jC m k<m.length
 | [],_,_,h=>by cases h
 | (k',v')::m,k,v,h=>by
  unfold look at h;unfold jC;split at h
  ·rename_i e;rw[By e];simp
  ·rename_i e;rw[AT e,R4];have:=zH m k v h;omega
theorem zD(m:cQ κ)(k:κ)(z:Value):look (my m k z) k=some ((look m k).getD z):=by
 unfold my;split
 ·rename_i h;rw[gf,By rfl,h];rfl
 ·rename_i h;cases e:look m k with
  | none=>exact absurd e h
  | some v=>rfl
theorem zy:∀(m:cQ κ) (k:κ) (z:Value),jC (my m k z) k=jC m k
 | [],k,z=>by simp[my,look,dC,jC]
 | (k',v')::m,k,z=>by
  by_cases e:k=k'
  ·subst e;simp[my,look,jC]
  ·have ih:=zy m k z;unfold my at ih ⊢;simp only[look,AT e];split
   ·rename_i h;rw[By h] at ih;simp only[dC,AT e,jC,ih]
   ·rfl
theorem yN:∀(m:cQ κ) (k:κ) (z v:Value),dC (my m k z) k v=dC m k v
 | [],k,z,v=>by simp[my,look,dC]
 | (k',v')::m,k,z,v=>by
  by_cases e:k=k'
  ·subst e;simp[my,look,dC]
  ·have ih:=yN m k z v;unfold my at ih ⊢;simp only[look,AT e];split
   ·rename_i h;rw[By h] at ih;simp only[dC,AT e,ih]
   ·rfl
variable {n:Nat}{k:bC}{F:ar}{own:bh}{ops rest:List Oper}{o:Oper}{Q:bC->ar->bh->List Rec->Prop}
theorem zh{α:Type}{l:List α}{p:Nat}{a:α}(h:l[p]?=some a):l.set p a=l:=by
 apply SA;intro i;by_cases e:i=p
 ·subst e;rw[Sc (R9.1 h).1,h]
 ·rw[SD (Ne.symm e)]
theorem WT.mapEntry(hT:aS C T=true)(p q:Nat){tm et:TypeId}{mo ko:Operand}{i:Nat}{m:cQ κ}{key:κ}{r:Row}{z:Value}{B B':List (Nat×aE)}{aB:bh}{d:Nat}(hop:o.op=.mapEntry tm mo ko)(hw:aF ops k o=some true)(hdst:o.dst=some d)(hn:Nat.blt d n=true)
  (hm:aW C k mo=some (.map (some i))) (hk:aW C k ko=some (K.key key)) (hp:own[p]?=some B) (hq:B[q]?=some (i,aE.map (aG K m))) (hr:rowOf T tm=some r) (hd:r.d=.map t et) (hz:jv T et=some z)
  (hB:uV B q (i,.map (aG K (my m key z)))=some B') (ho:ng own p B'=some aB)
  (h:WT C n ops rest ((d,.tuple ⟨[(look m key).getD z,.int .i64 (jC m key:Nat)]⟩)::k) F aB (λk2 F2 own2 rs=>Q k2 F2 own2 (⟨F,own,F,aB,[]⟩::rs))):WT C n ops (o::rest) k F own Q:=by
 have e1:=py _ _ _ _ hB;have e2:=eu _ _ _ _ ho;subst e1;subst e2;have hl:aX (aW C k) o.op=some []:=by rw[hop];rfl
 obtain⟨h3,h4⟩:=te K key m 0;cases hlk:look m key with
 | none=>
  obtain⟨h5,h6⟩:=h3 hlk;refine WT.put (v:=.tuple ⟨[(look m key).getD z,.int .i64 (jC m key:Nat)]⟩) (b':=.map (aG K (my m key z))) p q hp hq hw hl (λh0 s0 hb=>?_) (by rw[hdst,aA hn];exact h);rw[hop];have e:my m key z=dC m key z:=by unfold my;rw[By hlk]
  have hlen:(aG K m).length=m.length:=by unfold aG;rw[RL]
  simp only[aN,hm,hk,gh,dZ hT hr hd,hb,cS K m,K.ok,h5,du hT hz,e,lE K key z m hlk,hlk,h6,hlen];rfl
 | some v=>
  obtain⟨h5,h6,_⟩:=h4 v hlk;have hlt:=zH m key v hlk;have hst:=yW K m 0 _ hlt;rw[RY] at hst h5;have e:my m key z=m:=by unfold my;rw[AT (by rw[hlk];simp)]
  have eo:own.set p (B.set q (i,.map (aG K (my m key z))))=own:=by rw[e,zh hq,zh hp]
  rw[eo] at h;refine WT.still (v:=.tuple ⟨[(look m key).getD z,.int .i64 (jC m key:Nat)]⟩) hw hl (λh0 s0=>?_) (by rw[hdst,aA hn];exact h);have hb:=s0.has hp (Tc hq);rw[hop];simp only[aN,hm,hk,gh,dZ hT hr hd,hb,cS K m,K.ok,h5,h6,hst,fK,hlk];rfl
theorem WT.entryStore(p q:Nat){tm:TypeId}{mo so xo:Operand}{i:Nat}{m:cQ κ}{key:κ}{v0 v:Value}{B B':List (Nat×aE)}{aB:bh}(hop:o.op=.entryStore tm mo so xo)(hw:aF ops k o=some true)(hdst:o.dst=none)
  (hm:aW C k mo=some (.map (some i))) (hs:aW C k so=some (.int .i64 (jC m key:Nat))) (hv:aW C k xo=some v) (hp:own[p]?=some B) (hq:B[q]?=some (i,aE.map (aG K m))) (hlk:look m key=some v0)
  (hB:uV B q (i,.map (aG K (dC m key v)))=some B') (ho:ng own p B'=some aB)
  (h:WT C n ops rest k F aB (λk2 F2 own2 rs=>Q k2 F2 own2 (⟨F,own,F,aB,[]⟩::rs))):WT C n ops (o::rest) k F own Q:=by
 have e1:=py _ _ _ _ hB;have e2:=eu _ _ _ _ ho;subst e1;subst e2;obtain⟨h5,h6,h7⟩:=(te K key m 0).2 v0 hlk;have hlt:=zH m key v0 hlk;have hf:=uv K m 0 _ hlt;rw[RY] at hf;refine WT.put (v:=dv) (b':=.map (aG K (dC m key v))) p q hp hq hw (by rw[hop];rfl) (λh0 s0 hb=>?_) (by rw[hdst];exact h);rw[hop];simp only[aN,hm,hs,hv,eF,hb,hf,cS K m,h6,jl K,h7];rfl
theorem nN(hT:aS C T=true){tm et:TypeId}{mo ko:Operand}{i:Nat}{m2:cQ κ}{key:κ}{r:Row}{z v:Value}(hop:o.op=.lookup tm mo ko false)
  (hm:aW C k mo=some (.map (some i))) (hk:aW C k ko=some (K.key key)) (hr:rowOf T tm=some r) (hd:r.d=.map t et) (hz:jv T et=some z) {h2:aq} (hb:h2.get i=some (.map (aG K m2))) (hv:(look m2 key).getD z=v) :
  aN C (aW C k) h2 o.op=some (.val v h2):=by
 rw[hop];rcases iS K key m2 0 with ⟨h3,h4⟩ | ⟨j,v,h3,h4,_,_⟩
 ·rw[h3] at hv;have hv:z=v:=hv;simp only[aN,hm,hk,ji,dZ hT hr hd,iD,hb,cS K m2,K.ok,h4,du hT hz,hv];rfl
 ·rw[h3] at hv;simp only[aN,hm,hk,ji,dZ hT hr hd,iD,hb,cS K m2,K.ok,h4,<-hv];rfl
theorem WT.JT(hT:aS C T=true)(p:Nat){tm et:TypeId}{mo ko:Operand}{i:Nat}{m:cQ κ}{key:κ}{r:Row}{z:Value}{B:List (Nat×aE)}{d:Nat}(hop:o.op=.lookup tm mo ko false)(hw:aF ops k o=some true)(hdst:o.dst=some d)(hn:Nat.blt d n=true)
  (hm:aW C k mo=some (.map (some i))) (hk:aW C k ko=some (K.key key)) (hp:own[p]?=some B) (hq:(i,aE.map (aG K m))∈B) (hr:rowOf T tm=some r) (hd:r.d=.map t et) (hz:jv T et=some z)
  (h1:WT C n ops rest ((d,(look m key).getD z)::k) F own (λk2 F2 own2 rs=>Q k2 F2 own2 (@Rec.mk F own F own [i] ⟨λh2=>aN C (aW C k) h2 o.op=some (.val ((look m key).getD z) h2)⟩::rs))):WT C n ops (o::rest) k F own Q:=by
 have hl:aX (aW C k) o.op=some [i]:=by rw[hop];simp only[aX,hm]
 refine WT.dX (λh2=>aN C (aW C k) h2 o.op=some (.val ((look m key).getD z) h2)) hl λe h hkn hs=>⟨(look m key).getD z,?_,λh2 hb=>?_,by rw[hdst,aA hn];exact h1⟩
 ·have ho:=nN K hT (o:=o) (v:=(look m key).getD z) hop hm hk hr hd hz (hs.has hp hq) rfl;exact⟨0,λN _=>gF hkn hw ho _⟩
 ·have ho:=nN K hT (o:=o) (v:=(look m key).getD z) hop hm hk hr hd hz (hs.has hp hq) rfl;have e1:=dU hkn.eval ho;have e2:=dU hkn.eval hb;unfold lN;rw[hop] at e1 e2 ⊢;dsimp only;rw[e1,e2];exact fK _
end
end Go.Abs