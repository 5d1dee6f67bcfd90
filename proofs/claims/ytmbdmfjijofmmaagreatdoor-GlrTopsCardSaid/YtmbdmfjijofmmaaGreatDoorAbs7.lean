/-
  The logic, second part: data in frozen blocks, slices that grow, loops, calls; from contracts to the model.
-/
import Derived.Test.YtmbdmfjijofmmaaGreatDoorAbs6
import Derived.ChangeSlices
import Derived.ChangeArms
import Derived.WideShapes
/-
 How plain data lies in frozen blocks: cells,structs,slices.
-/
set_option linter.unusedVariables false
namespace Go.Abs
open Go
structure Ty(α:Type) where
 size:Nat
 rel:ar->List Value->α->Prop
 len:∀F l x,rel F l x->l.length=size
 one:∀F l x,rel F l x->l.all Go.Abs.one=true
 mono:∀F G l x,ar.le F G->rel F l x->rel G l x
structure bw{α:Type}(R:Ty α)(F:ar)(a:Option Addr)(n c:Nat)(xs:List α):Prop where
 len:n=xs.length
 cap:c=0\/c=R.size
 zero:c=0->n=0
 nil:a=none->n=0/\c=0
 spot:∀p,a=some p->p.spot=none
 el:∀(j:Nat) (x:α),xs[j]?=some x->∃b off ro cs l,a=some ⟨b,off,none⟩/\F b=some (.cells ro cs)/\bF cs (off+j*R.size) R.size=some l/\R.rel F l x
theorem bw.mono{α:Type}{R:Ty α}{F G:ar}{a:Option Addr}{n c:Nat}{xs:List α}(h:bw R F a n c xs)(hF:ar.le F G):bw R G a n c xs:=
 ⟨h.len,h.cap,h.zero,h.nil,h.spot,λj x hj=>
  let ⟨b,off,ro,cs,l,h1,h2,h3,h4⟩:=h.el j x hj
  ⟨b,off,ro,cs,l,h1,hF _ _ h2,h3,R.mono F G l x hF h4⟩⟩
theorem bw.gq{α:Type}(R:Ty α)(F:ar):bw R F none 0 0 ([]:List α):=
 ⟨rfl,.inl rfl,λ_=>rfl,λ_=>⟨rfl,rfl⟩,λp h=>(by cases h),λj x h=>(by simp at h)⟩
def fm:Ty Int where
 size:=1
 rel:=λ_ l x=>l=[.int .i64 x]
 len:=λ_ _ _ h=>by rw[h];rfl
 one:=λ_ _ _ h=>by rw[h];rfl
 mono:=λ_ _ _ _ _ h=>h
def cd:Ty Bool where
 size:=1
 rel:=λ_ l x=>l=[.bool x]
 len:=λ_ _ _ h=>by rw[h];rfl
 one:=λ_ _ _ h=>by rw[h];rfl
 mono:=λ_ _ _ _ _ h=>h
def Fv:Ty Nat where
 size:=1
 rel:=λ_ l x=>l=[.int .u32 x]
 len:=λ_ _ _ h=>by rw[h];rfl
 one:=λ_ _ _ h=>by rw[h];rfl
 mono:=λ_ _ _ _ _ h=>h
def cg{α:Type}(R:Ty α):Ty (List α) where
 size:=1
 rel:=λF l xs=>∃a n c,l=[.slice a n c]/\bw R F a n c xs
 len:=λ_ _ _ h=>by obtain⟨a,n,c,rfl,_⟩:=h;rfl
 one:=λ_ _ _ h=>by obtain⟨a,n,c,rfl,_⟩:=h;rfl
 mono:=λ_ _ _ _ hF h=>by obtain⟨a,n,c,e,h⟩:=h;exact⟨a,n,c,e,h.mono hF⟩
theorem Cv{cs:List Value}{off n fo m:Nat}{l r:List Value}(h:bF cs off n=some l)(h2:bF l fo m=some r):bF cs (off+fo) m=some r:=by
 obtain⟨h4,h3⟩:=eF h;obtain⟨h6,h5⟩:=eF h2;have hr:(cs.drop (off+fo)).take m=r:=by
  have hm:fo+m<=n\/m=0:=by
   have:(l.drop fo).take m=r:=h6.symm;have h7:r.length<=l.length-fo:=by rw[h6];simp[RK];omega
   omega
  rcases hm with hm | hm
  ·rw[h6,h4,List.drop_take,Uk,Td,show min m (n-fo)=m by omega]
  ·subst hm;rw[h6];simp
 unfold bF;simp only[hr,h5];simp
theorem Bb{C:Ctx}{cs l:List Value}{off n fo t:Nat}{v:Value}(h:bF cs off n=some l)(q:eI C l t fo=some v):eI C cs t (off+fo)=some v:=by
 unfold eI at q ⊢;cases hu:C.gQ t with
 | none=>rw[hu] at q;cases q
 | some d=>
  rw[hu] at q;simp only at q ⊢;cases hg:tt d with
  | true=>
   rw[hg] at q;simp only[OF] at q ⊢;split at q
   ·rename_i m hm;cases hl2:bF l fo m with
    | none=>rw[hl2] at q;cases q
    | some l2=>
     rw[hl2] at q;rw[Cv h hl2];exact q
   ·cases q
  | false=>
   rw[hg] at q;simp only[Ri] at q ⊢;obtain⟨h4,h3⟩:=eF h;rw[h4] at q;rw[<-q,RD];have hlt:fo<n:=by
    rcases Rw fo n with h | h
    ·exact h
    ·rw[RD,By (by omega)] at q;cases q
   rw[If hlt,RI]
section
variable {C:Ctx}{T:RT}{n:Nat}{k:bu}{F:ar}{own:a6}{ops rest:List Oper}{o:Oper}{Q:bu->ar->a6->List Rec->Prop}{α:Type}{R:Ty α}
theorem WT.idx(hT:aO C T=true){t e:Nat}{r:Row}{xo io:Operand}{a:Option Addr}{m c:Nat}{xs:List α}{x:α}{kd:IntKind}{j:Int}(hxs:bw R F a m c xs)(hop:o.op=.indexAddr t xo io)(hw:aE ops k o=some true){dst:Nat}(hdst:o.dst=some dst)(hn:Nat.blt dst n=true)
  (hx:aU C k xo=some (.slice a m c)) (hi:aU C k io=some (.int kd j)) (hr:rowOf T t=some r) (hd:r.d=.slice e) (hs:eY T e=some R.size) (h0:0<=j) (hj:xs[j.toNat]?=some x)
  (h:∀b off ro cs l,F b=some (.cells ro cs)->bF cs off R.size=some l->R.rel F l x->
   WT C n ops rest ((dst,(.pointer (some ⟨b,off,none⟩)))::k) F own (λk2 F2 own2 rs=>Q k2 F2 own2 (⟨F,own,F,own,[]⟩::rs))):WT C n ops (o::rest) k F own Q:=by
 have hput:∀v,((dst,v)::k:bu)=ck n k o.dst v:=λv=>by rw[hdst,ay hn]
 simp only[hput] at h;obtain⟨b,off,ro,cs,l,rfl,h2,h3,h4⟩:=hxs.el _ _ hj;refine WT.still hw (by rw[hop];rfl) (λh0' _=>?_) (h b (off+j.toNat*R.size) ro cs l h2 h3 h4);rw[hop];have hlt:j.toNat<xs.length:=(RH.1 hj).1;have hm:=hxs.len;simp only[aN,hx,hi,iJ,bO hT hr hd,cq hT hs];rw[If ⟨h0,by omega⟩];rfl
theorem WT.LX(hT:aO C T=true){t:TypeId}{ao:Operand}{b off fo m:Nat}{ro:Bool}{cs l:List Value}{v:Value}(hb:F b=some (.cells ro cs))(hp:bF cs off m=some l)(hop:o.op=.load t ao)(hw:aE ops k o=some true){dst:Nat}(hdst:o.dst=some dst)(hn:Nat.blt dst n=true)
  (ha:aU C k ao=some (.pointer (some ⟨b,off+fo,none⟩))) (hr:rI T l t fo=some v)
  (h:WT C n ops rest ((dst,v)::k) F own (λk2 F2 own2 rs=>Q k2 F2 own2 (⟨F,own,F,own,[b]⟩::rs))):WT C n ops (o::rest) k F own Q:=by
 have hput:∀v,((dst,v)::k:bu)=ck n k o.dst v:=λv=>by rw[hdst,ay hn]
 simp only[hput] at h;exact WT.uA hop hw ha hb (Bb hp (cl hT hr)) h
theorem bw.slice{a:Option Addr}{m c:Nat}{xs:List α}(hxs:bw R F a m c xs){lo hi:Nat}(hlo:lo<=hi)(hhi:hi<=m)(hT:aO C T=true){t e:Nat}{r:Row}(hr:rowOf T t=some r)(hd:r.d=.slice e)(hs:eY T e=some R.size)
  (vlo vhi:Option Value) (h1:cZ vlo 0=some lo) (h2:cZ vhi m=some hi) :
  ∃a' c',(∀h,kM C h t (.slice a m c) vlo vhi none=some (.slice a' (hi-lo) c'))/\bw R F a' (hi-lo) c' ((xs.take hi).drop lo):=by
 have hn:=hxs.len;cases a with
 | none=>
  obtain⟨rfl,rfl⟩:=hxs.nil rfl;have:hi=0:=by omega
  subst this;have:lo=0:=by omega
  subst this;refine⟨none,0,λh=>?_,?_⟩
  ·have h3:cZ none 0=some 0:=rfl;simp only[kM,bO hT hr hd,cq hT hs,h1,h2,h3];rfl
  ·have:xs=[]:=R8 (by omega);subst this;exact bw.gq R F
 | some p=>
  obtain⟨b,off,sp⟩:=p;have:sp=none:=hxs.spot _ rfl;subst this;refine⟨some ⟨b,off+lo*R.size,none⟩,c,λh=>?_,?_⟩
  ·have e1:Nat.ble lo hi=true:=RP hlo;have e2:Nat.ble hi m=true:=RP hhi;have e3:(c==0||c==R.size)=true:=by rcases hxs.cap with rfl | rfl<;>simp
   simp only[kM,bO hT hr hd,cq hT hs,h1,h2,e1,e2,e3,TC,OF]
  ·refine⟨by simp;omega,hxs.cap,λh0=>(by have:=hxs.zero h0;omega),λh0=>(by cases h0),λp hp=>(by cases hp;rfl),λj x hj=>?_⟩;rw[RI,RD] at hj;split at hj
   ·obtain⟨b',off',ro,cs,l,g1,g2,g3,g4⟩:=hxs.el _ _ hj;cases g1;refine⟨b,off+lo*R.size,ro,cs,l,rfl,g2,?_,g4⟩;rw[show off+lo*R.size+j*R.size=off+(lo+j)*R.size by rw[R3];omega];exact g3
   ·cases hj
theorem WT.slice{t:TypeId}{xo:Operand}{lo hi:Option Operand}{x v:Value}{vlo vhi:Option Value}{l:List Nat}(hop:o.op=.slice t xo lo hi none)(hw:aE ops k o=some true){dst:Nat}(hdst:o.dst=some dst)(hn:Nat.blt dst n=true)(hl:aY (aU C k) o.op=some l)(hx:aU C k xo=some x)
  (h1:lD (aU C k) lo=some vlo) (h2:lD (aU C k) hi=some vhi) (hs:∀h,kM C h t x vlo vhi none=some v)
  (h:WT C n ops rest ((dst,v)::k) F own (λk2 F2 own2 rs=>Q k2 F2 own2 (⟨F,own,F,own,l⟩::rs))):WT C n ops (o::rest) k F own Q:=by
 have hput:∀v,((dst,v)::k:bu)=ck n k o.dst v:=λv=>by rw[hdst,ay hn]
 simp only[hput] at h;refine WT.still hw hl (λh0 _=>?_) h;rw[hop];have h3:lD (aU C k) none=some none:=rfl;simp only[aN,hx,h1,h2,h3,hs h0];rfl
theorem WT.Es{f:FuncId}{fn:Func}{as:Array Operand}{ts:Array TypeId}{args:List Value}{oin fr:a6}{c9:ar->Value->a6->Prop}(hf:C.func f=some fn)(hb:fn.body.isSome=true)(hop:o.op=.call ⟨.value (.func f),as,ts⟩)
  (hw:aE ops k o=some true) {dst:Nat} (hdst:o.dst=some dst) (hn:Nat.blt dst n=true) (hv:dx (aU C k) as.toList=some args) (spec:Spec C f args F oin c9) (hperm:own.Perm (oin++fr))
  (h:∀F' v oout,ar.le F F'->c9 F' v oout->WT C n ops rest ((dst,v)::k) F' (oout++fr) (λk2 F2 own2 rs=>Q k2 F2 own2 (⟨F,own,F',oout++fr,[]⟩::rs))) :
  WT C n ops (o::rest) k F own Q:=by
 have hput:∀v,((dst,v)::k:bu)=ck n k o.dst v:=λv=>by rw[hdst,ay hn]
 simp only[hput] at h;refine WT.call hw (by rw[hop];rfl) (λh0=>?_) spec hperm h;rw[hop];simp only[aN,aU,hv,lu,hf,hb,OF];simp
end
end Go.Abs
/-
 Slices that grow: a slot of one's own holds what has been appended.
-/
set_option linter.unusedVariables false
namespace Go.Abs
open Go
inductive aF{α:Type}(R:Ty α)(F:ar):List Value->List α->Prop
 | nil:aF R F [] []
 | cons {l cs:List Value} {x:α} {xs:List α}:R.rel F l x->aF R F cs xs->aF R F (l++cs) (x::xs)
section
variable {α:Type}{R:Ty α}{F G:ar}
theorem aF.len{cs:List Value}{xs:List α}(h:aF R F cs xs):cs.length=xs.length*R.size:=by
 induction h with
 | nil=>simp
 | cons h1 _ ih=>simp[ih,R.len _ _ _ h1,R3];omega
theorem aF.one{cs:List Value}{xs:List α}(h:aF R F cs xs):cs.all Go.Abs.one=true:=by
 induction h with
 | nil=>rfl
 | cons h1 _ ih=>rw[List.all_append,ih,R.one _ _ _ h1];rfl
theorem aF.mono{cs:List Value}{xs:List α}(h:aF R F cs xs)(hF:ar.le F G):aF R G cs xs:=by
 induction h with
 | nil=>exact .nil
 | cons h1 _ ih=>exact .cons (R.mono _ _ _ _ hF h1) ih
theorem aF.append{cs ds:List Value}{xs ys:List α}(h:aF R F cs xs)(h2:aF R F ds ys):aF R F (cs++ds) (xs++ys):=by
 induction h with
 | nil=>exact h2
 | cons h1 _ ih=>rw[RY];exact .cons h1 ih
theorem aF.single{l:List Value}{x:α}(h:R.rel F l x):aF R F l [x]:=by
 have:=aF.cons h (aF.nil (R:=R) (F:=F));simpa using this
theorem aF.at{cs:List Value}{xs:List α}(h:aF R F cs xs):∀(j:Nat) (x:α),xs[j]?=some x->∃l,bF cs (j*R.size) R.size=some l/\R.rel F l x:=by
 induction h with
 | nil=>intro j x h;simp at h
 | cons h1 _ ih=>
  rename_i l cs y ys _;intro j x hj;have hl:=R.len _ _ _ h1;cases j with
  | zero=>
   simp at hj;subst hj;refine⟨l,?_,h1⟩;unfold bF;simp only[Ua,S6];rw[<-hl,T1]
   ·simp
   ·rfl
  | succ j=>
   obtain⟨l2,h2,h3⟩:=ih j x (by simpa using hj);refine⟨l2,?_,h3⟩;unfold bF at h2 ⊢;have:(l++cs).drop ((j+1)*R.size)=cs.drop (j*R.size):=by
    rw[show (j+1)*R.size=l.length+j*R.size by rw[hl,R3];omega,<-Td,List.drop_left]
   rw[this];exact h2
structure dy(R:Ty α)(F:ar)(a:Option Addr)(n c:Nat)(B:List (Nat×aD))(xs:List α):Prop where
 len:n=xs.length
 at_:(xs=[]/\a=none/\c=0/\B=[])\/∃i cs,a=some ⟨i,0,none⟩/\c=R.size/\B=[(i,.cells false cs)]/\aF R F cs xs/\0<R.size
theorem dy.gq(R:Ty α)(F:ar):dy R F none 0 0 [] ([]:List α):=⟨rfl,.inl ⟨rfl,rfl,rfl,rfl⟩⟩
theorem dy.mono{a:Option Addr}{n c:Nat}{B:List (Nat×aD)}{xs:List α}(h:dy R F a n c B xs)(hF:ar.le F G):dy R G a n c B xs:=
 ⟨h.len,h.at_.imp id λ⟨i,cs,h1,h2,h3,h4,h5⟩=>⟨i,cs,h1,h2,h3,h4.mono hF,h5⟩⟩
theorem dy.arr{a:Option Addr}{n c:Nat}{B:List (Nat×aD)}{xs:List α}(h:dy R F a n c B xs)(hG:ar.le F G)(hB:∀i b,(i,b)∈B->G i=some b):bw R G a n c xs:=by
 rcases h.at_ with ⟨rfl,rfl,rfl,rfl⟩ | ⟨i,cs,rfl,rfl,rfl,h4,h5⟩
 ·have:=h.len;simp at this;subst this;exact bw.gq R G
 ·refine⟨h.len,.inr rfl,λh0=>by omega,λh0=>(by cases h0),λp hp=>(by cases hp;rfl),λj x hj=>?_⟩;obtain⟨l,h6,h7⟩:=(h4.mono hG).at j x hj;exact⟨i,0,false,cs,l,rfl,hB i _ (Rl ..),by rw[Rn];exact h6,h7⟩
end
section
variable {C:Ctx}{T:RT}{n:Nat}{k:bu}{F:ar}{own:a6}{ops rest:List Oper}{o:Oper}{Q:bu->ar->a6->List Rec->Prop}{α:Type}{R:Ty α}
def pC(T:RT)(t:Nat):Option Nat:=match rowOf T t with | some r=>some r.bytes | none=>none
theorem jQ(hT:aO C T=true){t m:Nat}(q:pC T t=some m):C.bytes t=some m:=by
 unfold pC at q;split at q
 ·rename_i r hr;cases q;exact(dz hT hr).2.2.1
 ·cases q
theorem WT.append(hT:aO C T=true)(p:Nat){B:List (Nat×aD)}{a:Option Addr}{m c d by_:Nat}{xs ys:List α}{ds:List Value}{t e:Nat}{ts:List TypeId}{r:Row}{z x:Value}{xo so:Operand}
  (hb:dy R F a m c B xs) (hp:own[p]?=some B) (hop:o.op=.call ⟨.builtin .append,⟨[so,xo]⟩,⟨t::ts⟩⟩) (hw:aE ops k o=some true) {dst:Nat} (hdst:o.dst=some dst) (hn:Nat.blt dst n=true)
  (hs:aU C k so=some (.slice a m c)) (hx:aU C k xo=some x) (hr:rowOf T t=some r) (hd:r.d=.slice e) (hsz:eY T e=some R.size) (hz:jB T e=some z) (hby:pC T e=some by_)
  (hnew:∀h,St F own h->kG C h e R.size ts.head? x=some (d,ds)) (hds:aF R F ds ys) (hlen:d=ys.length) (hpos:0<d/\0<R.size/\0<by_) (hroom:(m+d)*by_<=140737488355328)
  (h:∀a' c' B',dy R F a' (m+d) c' B' (xs++ys)->WT C n ops rest ((dst,(.slice a' (m+d) c'))::k) F (own.set p B') (λk2 F2 own2 rs=>Q k2 F2 own2 (⟨F,own,F,own.set p B',[]⟩::rs))) :
  WT C n ops (o::rest) k F own Q:=by
 have hput:∀v,((dst,v)::k:bu)=ck n k o.dst v:=λv=>by rw[hdst,ay hn]
 simp only[hput] at h;have hl:aY (aU C k) o.op=some []:=by rw[hop];rfl
 have hv:dx (aU C k) [so,xo]=some [.slice a m c,x]:=by simp[dx,hs,hx]
 have hcond:∀ln,ln=m->(!(ds.length==d*R.size&&ds.all one&&Nat.blt 0 R.size&&Nat.blt 0 by_&&Nat.ble ((ln+d)*by_) 140737488355328))=false:=by
  intro ln hln;subst hln;have h1:(ds.length==d*R.size)=true:=by rw[hds.len,hlen];simp
  have h2:Nat.blt 0 R.size=true:=RP hpos.2.1;have h3:Nat.blt 0 by_=true:=RP hpos.2.2;have h4:Nat.ble ((ln+d)*by_) 140737488355328=true:=RP hroom;rw[h1,h2,h3,h4,hds.one];rfl
 have hd0:(d==0)=false:=by have:=hpos.1;cases d with | zero=>omega | succ d=>rfl
 have hlen':=hb.len;rcases hb.at_ with ⟨rfl,rfl,rfl,rfl⟩ | ⟨i,cs,rfl,rfl,rfl,h4,h5⟩
 ·simp at hlen';subst hlen';refine WT.fill (mk:=λi=>.slice (some ⟨i,0,none⟩) (0+d) R.size) (b:=.cells false ds) p hp hw hl (λh0 s0=>?_) (λi hi=>h _ _ _ ⟨by simp;exact hlen,.inr ⟨i,ds,rfl,rfl,rfl,by simpa using hds,hpos.2.1⟩⟩);rw[hop];simp only[aN,hv,bR,ja,bO hT hr hd,cq hT hsz,ej hT hz,jQ hT hby,hnew h0 s0,hcond 0 rfl,hd0,Ri];simp
 ·refine WT.move (mk:=λi=>.slice (some ⟨i,0,none⟩) (m+d) R.size) (b:=.cells false cs) (b':=.cells false (cs++ds)) p hp hw hl (λh0 s0 hg=>?_) (λj hj=>h _ _ _ ⟨by simp;omega,.inr ⟨j,cs++ds,rfl,rfl,rfl,h4.append hds,h5⟩⟩);rw[hop];have hc0:(R.size==0)=false:=by simp;omega
  have hcc:(!(R.size==R.size))=false:=by simp
  have hpart:bF cs 0 (m*R.size)=some cs:=by
   unfold bF;have:cs.length=m*R.size:=by rw[h4.len,hlen']
   simp[<-this]
  simp only[aN,hv,bR,ja,bO hT hr hd,cq hT hsz,ej hT hz,jQ hT hby,hnew h0 s0,hcond m rfl,hd0,Ri,hc0,hcc,hg,hpart];rfl
theorem WT.buildSlice(hT:aO C T=true){t e len sz:Nat}{ps:Array (Nat×Operand)}{vs:List (Nat×Value)}{r:Row}{z:Value}{cs:List Value}(hop:o.op=.buildSlice t len ps)(hw:aE ops k o=some true){dst:Nat}(hdst:o.dst=some dst)(hn:Nat.blt dst n=true)
  (hps:ez (aU C k) ps.toList=some vs) (hr:rowOf T t=some r) (hd:r.d=.slice e) (hsz:eY T e=some sz) (hz:jB T e=some z) (hok:(Nat.ble (len*sz) 16777216&&Nat.blt 0 sz)=true)
  (hfill:ld (λi=>some (i*sz,sz)) (cX z.cells.toList len) vs=some cs)
  (h:∀i,F i=none->WT C n ops rest ((dst,(.slice (some ⟨i,0,none⟩) len (bif len==0 then 0 else sz)))::k) F ([(i,.cells false cs)]::own) (λk2 F2 own2 rs=>Q k2 F2 own2 (⟨F,own,F,[(i,.cells false cs)]::own,[]⟩::rs))) :
  WT C n ops (o::rest) k F own Q:=by
 have hput:∀v,((dst,v)::k:bu)=ck n k o.dst v:=λv=>by rw[hdst,ay hn]
 simp only[hput] at h;refine WT.new (mk:=λi=>.slice (some ⟨i,0,none⟩) len (bif len==0 then 0 else sz)) hw (by rw[hop];rfl) (λh0 _=>?_) h;rw[hop];simp only[aN,hps,gK,bO hT hr hd,cq hT hsz,ej hT hz,hok,OF,hfill];rfl
theorem bh(hT:aO C T=true){h:aq}(s:St F own h)(q:Nat){i:Nat}{ro:Bool}{cs:List Value}{e sz len c t e':Nat}{r:Row}(hq:own[q]?=some [(i,.cells ro cs)])(hr:rowOf T t=some r)(hd:r.d=.slice e')
  (hl:cs.length=len*sz):kG C h e sz (some t) (.slice (some ⟨i,0,none⟩) len c)=some (len,cs):=by
 have hb:h.get i=some (.cells ro cs):=s.has hq (Rl ..);have hpart:bF cs 0 (len*sz)=some cs:=by unfold bF;simp[<-hl]
 by_cases hz:len=0
 ·subst hz;have:cs=[]:=R8 (by omega);subst this;simp[kG,bO hT hr hd,eD,gV,eU]
 ·simp only[kG,bO hT hr hd,eD,gV,eU,iv,hb,hpart,show (len==0)=false by simpa using hz];rfl
theorem bD.sQ{d:Nat}{v:Value}(hv:lk k d=some v):bD ((d,v)::k) k:=by
 intro j u q;simp only[lk] at q;cases hb:Nat.beq d j with
 | true=>
  rw[hb] at q;have:=RF hb;subst this;cases q;exact hv
 | false=>rw[hb] at q;exact q
theorem WT.split(d:Nat){v:Bool}(hv:lk k d=some (.bool v))(h1:v=true->WT C n ops rest ((d,.bool true)::k) F own Q)(h2:v=false->WT C n ops rest ((d,.bool false)::k) F own Q):WT C n ops rest k F own Q:=by
 cases v with
 | true=>exact WT.weaken (bD.sQ hv) (h1 rfl)
 | false=>exact WT.weaken (bD.sQ hv) (h2 rfl)
theorem AW.split{c:Code}{A:Ex->bu->ar->a6->Prop}(d:Nat){v:Bool}(hv:lk k d=some (.bool v))(h1:v=true->AW C n c ((d,.bool true)::k) F own A)(h2:v=false->AW C n c ((d,.bool false)::k) F own A):AW C n c k F own A:=by
 cases v with
 | true=>exact AW.weaken (bD.sQ hv) (h1 rfl)
 | false=>exact AW.weaken (bD.sQ hv) (h2 rfl)
end
end Go.Abs
/-
 Loops: what changes in a round;loops over a range.
-/
set_option linter.unusedVariables false
namespace Go.Abs
open Go
theorem HG:∀(k:bu) (i:Nat) (v:Value),lk k i=some v->i∈k.map (·.1)
 | [],_,_,q=>by cases q
 | (j,u)::k,i,v,q=>by
  simp only[lk] at q;cases hb:Nat.beq j i with
  | true=>rw[RF hb];simp
  | false=>rw[hb] at q;exact I9 _ (HG k i v q)
theorem bD.of_map{k2 k:bu}(h:(k2.map (·.1)).map (lk k)=(k2.map (·.1)).map (lk k2)):bD k2 k:=by
 intro i v q;have hm:=HG k2 i v q;have:∀(l:List Nat),l.map (lk k)=l.map (lk k2)->∀i∈l,lk k i=lk k2 i:=by
  intro l
  induction l with
  | nil=>intro _ i hi;cases hi
  | cons a l ih=>
   intro he i hi;simp only[Na,Rv] at he;rcases Rt.1 hi with rfl | hi
   ·exact he.1
   ·exact ih he.2 i hi
 rw[this _ h i hm,q]
theorem bD.refl(k:bu):bD k k:=λ_ _ q=>q
theorem bD.trans{a b c:bu}(h1:bD a b)(h2:bD b c):bD a c:=λi v q=>h2 i v (h1 i v q)
def ah(own2 own:a6):Prop:=∃l:List (Nat×aD),l.Sublist own.flatten/\l.Perm own2.flatten
theorem ah.refl(own:a6):ah own own:=⟨_,RM _,Rc _⟩
theorem ah.sub{own2 own:a6}(h:own2.Sublist own):ah own2 own:=⟨_,tU h,Rc _⟩
theorem ah.perm{own2 own:a6}(h:own.Perm own2):ah own2 own:=⟨_,RM _,TS h⟩
theorem ah.flat{own2 own:a6}(h:own.flatten.Perm own2.flatten):ah own2 own:=⟨_,RM _,h⟩
theorem Ab{α:Type}{l m m':List α}(h:l.Sublist m)(hp:m.Perm m'):∃l',l'.Sublist m'/\l.Perm l':=by
 induction hp generalizing l with
 | nil=>exact⟨l,h,Rc _⟩
 | cons a _ ih=>
  cases h with
  | cons _ h=>
   obtain⟨l',h1,h2⟩:=ih h;exact⟨l',h1.cons a,h2⟩
  | cons_cons _ h=>
   obtain⟨l',h1,h2⟩:=ih h;exact⟨a::l',h1.cons_cons a,h2.cons a⟩
 | swap a b m=>
  cases h with
  | cons _ h=>
   cases h with
   | cons _ h=>exact⟨l,(h.cons b).cons a,Rc _⟩
   | cons_cons _ h=>exact⟨_,(h.cons b).cons_cons a,Rc _⟩
  | cons_cons _ h=>
   cases h with
   | cons _ h=>exact⟨_,(h.cons_cons b).cons a,Rc _⟩
   | cons_cons _ h=>exact⟨_,(h.cons_cons b).cons_cons a,List.Perm.swap ..⟩
 | trans _ _ ih1 ih2=>
  obtain⟨l1,h1,h2⟩:=ih1 h;obtain⟨l2,h3,h4⟩:=ih2 h1;exact⟨l2,h3,h2.trans h4⟩
theorem ah.trans{a b c:a6}(h1:ah a b)(h2:ah b c):ah a c:=by
 obtain⟨l,h3,h4⟩:=h1;obtain⟨m,h5,h6⟩:=h2;obtain⟨l',h7,h8⟩:=Ab h3 h6.symm;exact⟨l',h7.trans h5,h8.symm.trans h4⟩
theorem ah.cons{a b:a6}(B:List (Nat×aD))(h:ah a b):ah (B::a) (B::b):=by
 obtain⟨l,h1,h2⟩:=h;exact⟨B++l,by simp only[SC];exact(RM B).append h1,by simp only[SC];exact h2.append_left B⟩
theorem ah.skip{a b:a6}(B:List (Nat×aD))(h:ah a b):ah a (B::b):=h.trans (ah.sub (SF ..))
theorem St.le{F:ar}{own own2:a6}{h:aq}(s:St F own h)(ho:ah own2 own):St F own2 h:=by
 obtain⟨l,h1,h2⟩:=ho;exact jA.perm (jA.sub s h1) h2
theorem St.oG{F G:ar}{own:a6}{h:aq}(s:St G own h)(hF:ar.le F G):St F own h:=
 ⟨λi b q=>s.xQ i b (hF i b q),λp hp=>jA.has s p hp,λp hp=>(by
  have:=jA.apart s p hp;cases hf:F p.1 with
  | none=>rfl
  | some b=>rw[hF _ _ hf] at this;cases this),jA.nodup s,s.wf⟩
section
variable {C:Ctx}{n:Nat}{k:bu}{F:ar}{own:a6}{A:Ex->bu->ar->a6->Prop}
theorem AW.le{c:Code}{own2:a6}(ho:ah own2 own)(h:AW C n c k F own2 A):AW C n c k F own A:=λe h0 hk' hs=>h e h0 hk' (hs.le ho)
theorem WT.le{ops rest:List Oper}{Q:bu->ar->a6->List Rec->Prop}{own2:a6}(ho:ah own2 own)(h:WT C n ops rest k F own2 Q):WT C n ops rest k F own Q:=λe h0 hk' hs=>h e h0 hk' (hs.le ho)
theorem AW.cK{S:Type}(chg:S->bu)(ow:S->a6)(P:S->ar->Prop)(m:S->Nat){c:Code}(s0:S)
  (hk:bD (chg s0++k) k) (ho:ah (ow s0) own) (hP:P s0 F)
  (step:∀s F',ar.le F F'->P s F'->AW C n c (chg s++k) F' (ow s) (mV (λk' F'' az=>∃s',m s'<m s/\bD (chg s'++k) k'/\ah (ow s') az/\P s' F'') A)) :
  AW C n (.loop c) k F own A:=by
 have main:AW C n (.loop c) (chg s0++k) F (ow s0) A:=by
  refine AW.loop (λs k' F' az=>k'=chg s++k/\az=ow s/\ar.le F F'/\P s F') m ?_ s0 _ _ _ ⟨rfl,rfl,ar.le.refl F,hP⟩;rintro s _ F' _ ⟨rfl,rfl,hF,hp⟩;intro e h0 hk1 hs1;obtain⟨x,e1,h1,k1,F1,own1,h2,h3,h4,h5,h6⟩:=step s F' hF hp e h0 hk1 hs1;cases x with
  | normal=>
   obtain⟨s',q1,q2,q3,q4⟩:=h6;exact⟨.normal,e1,h1,k1,F1,ow s',h2,h3,h4,h5.le q3,s',chg s'++k,ow s',q1,q2,RM _,rfl,rfl,hF.trans h4,q4⟩
  | exit id=>exact⟨.exit id,e1,h1,k1,F1,own1,h2,h3,h4,h5,h6⟩
  | ret=>exact⟨.ret,e1,h1,k1,F1,own1,h2,h3,h4,h5,h6⟩
 exact AW.weaken hk (AW.le ho main)
def zM{S:Type}(bid:Nat)(ti j:Nat)(chg:S->bu)(k:bu)(ow:S->a6)(P:Nat->S->ar->Prop)(A:Ex->bu->ar->a6->Prop):Ex->bu->ar->a6->Prop
 | .normal,k',F',az=>∃s',bD ((ti,.int .i64 j)::(chg s'++k)) k'/\ah (ow s') az/\P (j+1) s' F'
 | .exit i,k',F',az=>A (bif i==bid then .normal else .exit i) k' F' az
 | .ret,k',F',az=>A .ret k' F' az
theorem AW.range{S:Type}(chg:S->bu)(ow:S->a6)(P:Nat->S->ar->Prop)(m:Nat)(s0:S)
  {bid bid' r1 r2 ti tl tc tj t1 t2 t3 t4:Nat} {body:Code} {o1 o2 o3:Oper}
  (ho1:o1.op=.binOp .lss t1 (.tmp ti) (.tmp tl) t2) (hd1:o1.dst=some tc) (hg1:o1.guard=none)
  (ho2:o2.op=.binOp .add t3 (.tmp ti) (.const (.int .i64 1)) t4) (hd2:o2.dst=some tj) (hg2:o2.guard=none)
  (ho3:o3.op=.move (.tmp tj)) (hd3:o3.dst=some ti) (hg3:o3.guard=none)
  (hm:m<=9223372036854775807) (hn:(Nat.blt ti n&&Nat.blt tc n&&Nat.blt tj n)=true)
  (hne:(Nat.beq ti tj||Nat.beq tc ti||Nat.beq tl ti)=false)
  (hl:∀s,lk (chg s++k) tl=some (.int .i64 m)) (hj:∀s,lk (chg s++k) tj=none)
  (hk:bD ((ti,.int .i64 0)::(chg s0++k)) k) (ho:ah (ow s0) own) (hP:P 0 s0 F)
  (step:∀j s F',ar.le F F'->j<m->P j s F'->AW C n body ((tc,.bool true)::(ti,.int .i64 j)::(chg s++k)) F' (ow s) (fv bid' (zM bid ti j chg k ow P A)))
  (done:∀s F',ar.le F F'->P m s F'->A .normal ((tc,.bool false)::(ti,.int .i64 m)::(chg s++k)) F' (ow s)) :
  AW C n (.block bid (.loop (.seq (.region r1 ⟨[o1]⟩ false) (.seq (.cond (.tmp tc) .skip (.exit bid)) (.seq (.block bid' body) (.region r2 ⟨[o2,o3]⟩ false)))))) k F own A:=by
 simp only[IN] at hn;simp only[Tt] at hne;obtain⟨⟨hn1,hn2⟩,hn3⟩:=hn;obtain⟨⟨hne1,hne2⟩,hne3⟩:=hne;have put1:∀k v,ck n k (some ti) v=(ti,v)::k:=λk v=>by simp only[ck,hn1,OF]
 have put2:∀k v,ck n k (some tc) v=(tc,v)::k:=λk v=>by simp only[ck,hn2,OF]
 have put3:∀k v,ck n k (some tj) v=(tj,v)::k:=λk v=>by simp only[ck,hn3,OF]
 have lt_i:Nat.beq ti ti=true:=Ta ti;have lt_c:Nat.beq tc tc=true:=Ta tc;have lt_j:Nat.beq tj tj=true:=Ta tj;have hne3':Nat.beq ti tl=false:=by
  cases h:Nat.beq ti tl with
  | false=>rfl
  | true=>rw[RF h,Ta] at hne3;cases hne3
 refine AW.block ?_;let st:Nat×S->bu:=λp=>(ti,.int .i64 p.1)::(chg p.2++k);have main:AW C n (.loop (.seq (.region r1 ⟨[o1]⟩ false) (.seq (.cond (.tmp tc) .skip (.exit bid)) (.seq (.block bid' body) (.region r2 ⟨[o2,o3]⟩ false))))) ((ti,.int .i64 0)::(chg s0++k)) F (ow s0) (fv bid A):=by
  refine AW.loop (λ(p:Nat×S) k' F' az=>k'=st p/\az=ow p.2/\ar.le F F'/\p.1<=m/\P p.1 p.2 F') (λp=>m-p.1) ?_ (0,s0) _ _ _ ⟨rfl,rfl,ar.le.refl F,RC _,hP⟩;rintro⟨j,s⟩ _ F' _ ⟨rfl,rfl,hF,hjm,hp⟩;simp only at hjm hp;refine AW.seq (AW.du ?_);refine WT.still (v:=.bool (decide ((j:Int)<m))) (l:=[]) (by simp only[aE,hg1]) ?_ (λh0 _=>?_) ?_
  ·rw[ho1];simp only[aY,aU,st,lk,lt_i,OF,hne3',Ri,hl];rfl
  ·rw[ho1];simp only[aN,aU,st,lk,lt_i,OF,hne3',Ri,hl,kQ,Sv,b9];rfl
  refine WT.nil ?_;show AW C n _ _ _ _ _;rw[hd1,put2];refine AW.seq (AW.cond (v:=decide ((j:Int)<m)) (by simp only[aU,lk,lt_c,OF]) (λhc=>?_) (λhc=>?_))
  ·have hc:j<m:=by have:=Sm hc;omega
   refine AW.skip ?_;show AW C n _ _ _ _ _;refine AW.seq (AW.block ?_);have hd:decide ((j:Int)<m)=true:=by simp;omega
   rw[hd];refine AW.mono (step j s F' hF hc hp) ?_;intro x k' F'' az hF'' hx;have fin:zM bid ti j chg k ow P A .normal k' F'' az->AW C n (.region r2 ⟨[o2,o3]⟩ false) k' F'' az (mV (λk' F' az=>∃(j_1:Nat×S),∃k2 own2,m-j_1.1<m-j/\bD k2 k'/\own2.Sublist az/\k2=st j_1/\own2=ow j_1.2/\ar.le F F'/\j_1.1<=m/\P j_1.1 j_1.2 F') (fv bid A)):=by
    rintro⟨s',q1,q2,q3⟩;refine AW.weaken q1 (AW.le q2 (AW.du ?_));refine WT.add (x:=j) (y:=1) ho2 (by simp only[aE,hg2]) (by simp only[aU,lk,lt_i,OF]) (by simp only[aU,plain,OF]) (by omega) ?_;rw[hd2,put3];refine WT.still (v:=.int .i64 (j+1)) (l:=[]) (by simp only[aE,hg3]) ?_ (λh0 _=>?_) ?_
    ·rw[ho3];rfl
    ·rw[ho3];simp only[aN,aU,lk,lt_j,OF];rfl
    rw[hd3,put1];refine WT.nil ?_;refine⟨(j+1,s'),st (j+1,s'),ow s',by simp only;omega,?_,RM _,rfl,rfl,hF.trans hF'',by simp only;omega,q3⟩;intro i v q;simp only[st,lk] at q ⊢;cases hb:Nat.beq ti i with
    | true=>rw[hb] at q;simpa using q
    | false=>
     rw[hb] at q;simp only[Ri] at q ⊢;cases hb2:Nat.beq tj i with
     | true=>
      have:=RF hb2;subst this;rw[hj] at q;cases q
     | false=>exact q
   cases x with
   | normal=>exact fin hx
   | ret=>exact hx
   | exit i=>
    simp only[fv] at hx ⊢;cases hi:(i==bid') with
    | true=>rw[hi] at hx;exact fin hx
    | false=>rw[hi] at hx;exact hx
  ·have hc:j=m:=by have:=TL hc;omega
   subst hc;have hd:decide ((j:Int)<j)=false:=by simp
   rw[hd];refine AW.exit ?_;simp only[mV,fv];have:(bid==bid)=true:=by simp
   rw[this];exact done s F' hF hp
 exact AW.weaken hk (AW.le ho main)
end
end Go.Abs
/-
 More rules: elements by their place,equality of structs,bits.
-/
set_option linter.unusedVariables false
namespace Go.Abs
open Go
def oH(T:RT)(eq:TypeId->Value->Value->Option Bool):List (Nat×Nat)->List Value->List Value->Option Bool
 | [],_,_=>some true
 | (off,ft)::fs,xs,ys=>
  match rI T xs ft off,rI T ys ft off with
  | some a,some b=>match eq ft a b,oH T eq fs xs ys with
   | some p,some q=>some (p&&q)
   | _,_=>none
  | _,_=>none
def Kq(C:Ctx)(T:RT):Nat->TypeId->Value->Value->Option Bool
 | 0,_,_,_=>none
 | n+1,t,x,y=>
  match rowOf T t with
  | some r=>match r.d,x,y with
   | .struct fs,.agg ⟨xs⟩,.agg ⟨ys⟩=>bif C.flat t then oH T (Kq C T n) fs xs ys else none
   | .int _,.int k a,.int k' b=>if k=k' then some (a==b) else none
   | .string,.string a,.string b=>some (a==b)
   | .bool,.bool a,.bool b=>some (a==b)
   | _,_,_=>none
  | none=>none
section
variable {C:Ctx}{T:RT}(hT:aO C T=true)
include hT
theorem qx{eqt eqa:TypeId->Value->Value->Option Bool}(he:∀t x y b,eqt t x y=some b->eqa t x y=some b):∀(fs:List Field) (xs ys:List Value) (b:Bool),
  oH T eqt (fs.map λf=>(f.offset,f.type)) xs ys=some b->eqFields C eqa fs xs ys=some b
 | [],xs,ys,b,q=>q
 | f::fs,xs,ys,b,q=>by
  simp only[Na,oH] at q;split at q
  ·rename_i u v hu hv;split at q
   ·rename_i p r hp hr;cases q;unfold eqFields;rw[cl hT hu,cl hT hv];simp only[he _ _ _ _ hp];cases p with
    | true=>simpa using qx he fs xs ys r hr
    | false=>rfl
   ·cases q
  ·cases q
theorem j7{t:Nat}{r:Row}(q:rowOf T t=some r)(hd:r.d=.string):C.gQ t=some .string:=by
 obtain⟨_,_,_,_,d,h4,h5⟩:=dz hT q;rw[hd] at h5;cases d<;>first | (cases h5;done) | skip
 rw[h4]
theorem rA{t:Nat}{r:Row}(q:rowOf T t=some r)(hd:r.d=.bool):C.gQ t=some .bool:=by
 obtain⟨_,_,_,_,d,h4,h5⟩:=dz hT q;rw[hd] at h5;cases d<;>first | (cases h5;done) | skip
 rw[h4]
theorem vC:∀(n:Nat) (t:TypeId) (x y:Value) (b:Bool),Kq C T n t x y=some b->tK C n t x y=some b
 | 0,_,_,_,_,q=>by cases q
 | n+1,t,x,y,b,q=>by
  unfold Kq at q;split at q
  ·rename_i r hr;split at q
   ·rename_i fs xs ys hd;obtain⟨fs',hu,hfs⟩:=iO hT hr hd;cases hf:C.flat t with
    | false=>rw[hf] at q;cases q
    | true=>
     rw[hf] at q;simp only[OF] at q;unfold tK;simp only[hu,hf,OF];rw[hfs] at q;exact qx hT (vC n) _ _ _ _ q
   ·rename_i kd k a k' b' hd;have hu:=Am hT hr hd;unfold tK;simp only[hu,fU];exact q
   ·rename_i a b' hd;have hu:=j7 hT hr hd;unfold tK;simp only[hu,fU];rw[<-q]
   ·rename_i a b' hd;have hu:=rA hT hr hd;unfold tK;simp only[hu,fU];rw[<-q]
   ·cases q
  ·cases q
theorem xH{h:aq}{t:TypeId}{xs ys:List Value}{b:Bool}(q:Kq C T 8 t (.agg ⟨xs⟩) (.agg ⟨ys⟩)=some b):equalA C h t (.agg ⟨xs⟩) (.agg ⟨ys⟩)=some b:=by
 have h1:=vC hT 8 t _ _ b q;unfold Kq at q;split at q
 ·rename_i r hr;split at q
  ·rename_i fs _ _ hd _ _;obtain⟨fs',hu,hfs⟩:=iO hT hr hd;unfold equalA;rw[hu];exact h1
  ·rename_i h2 h3;cases h2
  ·rename_i h2 h3;cases h2
  ·rename_i h2 h3;cases h2
  ·cases q
 ·cases q
omit hT in
theorem ue{t:TypeId}{xs ys:List Value}{b:Bool}(q:Kq C T 8 t (.agg ⟨xs⟩) (.agg ⟨ys⟩)=some b):C.flat t=true:=by
 unfold Kq at q;split at q
 ·split at q
  ·cases hf:C.flat t with
   | false=>rw[hf] at q;cases q
   | true=>rfl
  ·rename_i h2 h3;cases h2
  ·rename_i h2 h3;cases h2
  ·rename_i h2 h3;cases h2
  ·cases q
 ·cases q
end
section
variable {C:Ctx}{T:RT}{n:Nat}{k:bu}{F:ar}{own:a6}{ops rest:List Oper}{o:Oper}{Q:bu->ar->a6->List Rec->Prop}{α:Type}{R:Ty α}
theorem WT.Qs(hT:aO C T=true){t ty:TypeId}{xo yo:Operand}{xs ys:List Value}{b:Bool}(hop:o.op=.binOp .eql t xo yo ty)(hw:aE ops k o=some true){dst:Nat}(hdst:o.dst=some dst)(hn:Nat.blt dst n=true)
  (hx:aU C k xo=some (.agg ⟨xs⟩)) (hy:aU C k yo=some (.agg ⟨ys⟩)) (he:Kq C T 8 t (.agg ⟨xs⟩) (.agg ⟨ys⟩)=some b)
  (h:WT C n ops rest ((dst,(.bool b))::k) F own (λk2 F2 own2 rs=>Q k2 F2 own2 (⟨F,own,F,own,[]⟩::rs))):WT C n ops (o::rest) k F own Q:=by
 have hput:∀v,((dst,v)::k:bu)=ck n k o.dst v:=λv=>by rw[hdst,ay hn]
 simp only[hput] at h;refine WT.still hw (by rw[hop];simp only[aY,hx,hy];rfl) (λh0 _=>?_) h;rw[hop];simp only[aN,hx,hy,kQ,js,ue he,xH hT he,OF,RU]
theorem WT.Qq(hT:aO C T=true){t ty:TypeId}{xo yo:Operand}{xs ys:List Value}{b:Bool}(hop:o.op=.binOp .neq t xo yo ty)(hw:aE ops k o=some true){dst:Nat}(hdst:o.dst=some dst)(hn:Nat.blt dst n=true)
  (hx:aU C k xo=some (.agg ⟨xs⟩)) (hy:aU C k yo=some (.agg ⟨ys⟩)) (he:Kq C T 8 t (.agg ⟨xs⟩) (.agg ⟨ys⟩)=some b)
  (h:WT C n ops rest ((dst,(.bool !b))::k) F own (λk2 F2 own2 rs=>Q k2 F2 own2 (⟨F,own,F,own,[]⟩::rs))):WT C n ops (o::rest) k F own Q:=by
 have hput:∀v,((dst,v)::k:bu)=ck n k o.dst v:=λv=>by rw[hdst,ay hn]
 simp only[hput] at h;refine WT.still hw (by rw[hop];simp only[aY,hx,hy];rfl) (λh0 _=>?_) h;rw[hop];simp only[aN,hx,hy,kQ,js,ue he,xH hT he,OF,RU]
theorem WT.bG(hT:aO C T=true){t e:Nat}{r:Row}{xo io:Operand}{a:Option Addr}{m c:Nat}{xs:List α}{kd:IntKind}{j:Nat}(hxs:bw R F a m c xs)(hop:o.op=.indexAddr t xo io)(hw:aE ops k o=some true){dst:Nat}(hdst:o.dst=some dst)(hn:Nat.blt dst n=true)
  (hx:aU C k xo=some (.slice a m c)) (hi:aU C k io=some (.int kd (j:Nat))) (hr:rowOf T t=some r) (hd:r.d=.slice e) (hs:eY T e=some R.size) (hj:j<xs.length)
  (h:∀x,xs[j]?=some x->∀b off ro cs l,F b=some (.cells ro cs)->bF cs off R.size=some l->R.rel F l x->
   WT C n ops rest ((dst,(.pointer (some ⟨b,off,none⟩)))::k) F own (λk2 F2 own2 rs=>Q k2 F2 own2 (⟨F,own,F,own,[]⟩::rs))):WT C n ops (o::rest) k F own Q:=
 WT.idx hT (x:=xs[j]) (j:=(j:Int)) hxs hop hw hdst hn hx hi hr hd hs (Tp j) (by simp[hj]) (h _ (RL hj))
theorem WT.Nc{t ty:TypeId}{xo yo:Operand}{x y:Int}(hop:o.op=.binOp .mul t xo yo ty)(hw:aE ops k o=some true){dst:Nat}(hdst:o.dst=some dst)(hn:Nat.blt dst n=true)(hx:aU C k xo=some (.int .i64 x))(hy:aU C k yo=some (.int .i64 y))
  (hr:-9223372036854775808<=x*y/\x*y<=9223372036854775807)
  (h:WT C n ops rest ((dst,.int .i64 (x*y))::k) F own (λk2 F2 own2 rs=>Q k2 F2 own2 (⟨F,own,F,own,[]⟩::rs))):WT C n ops (o::rest) k F own Q:=
 WT.mul hop hw hx hy hr (by rw[hdst,ay hn];exact h)
theorem WT.O3{t ty:TypeId}{xo yo:Operand}{x y:Int}(hop:o.op=.binOp .rem t xo yo ty)(hw:aE ops k o=some true){dst:Nat}(hdst:o.dst=some dst)(hn:Nat.blt dst n=true)(hx:aU C k xo=some (.int .i64 x))(hy:aU C k yo=some (.int .i64 y))
  (hr:y≠0)
  (h:WT C n ops rest ((dst,.int .i64 (x.tmod y))::k) F own (λk2 F2 own2 rs=>Q k2 F2 own2 (⟨F,own,F,own,[]⟩::rs))):WT C n ops (o::rest) k F own Q:=
 WT.rem hop hw hx hy hr (by rw[hdst,ay hn];exact h)
theorem qT{x:Int}(h:0<=x/\x<4294967296):IntKind.u32.wrap x=x:=by
 have hs:IntKind.u32.signed=false:=rfl;have hbits:IntKind.u32.bits=32:=rfl;simp only[IntKind.wrap,hs,hbits,Ub];have:(2:Int) ^ 32=4294967296:=rfl;rw[this];simp;omega
theorem Fh{x:Nat}(h:x<4294967296):(BitVec.ofInt 32 (x:Int)).toNat=x:=by
 simp;omega
theorem DI{x y:Nat}(hx:x<4294967296)(hy:y<4294967296):IntKind.u32.wrap ((BitVec.ofInt IntKind.u32.bits (x:Int) ||| BitVec.ofInt IntKind.u32.bits (y:Int)).toNat:Int)=((x ||| y:Nat):Int):=by
 have hb:IntKind.u32.bits=32:=rfl;have h0:x ||| y<4294967296:=Nat.or_lt_two_pow (n:=32) hx hy
 rw[hb,BitVec.toNat_or,Fh hx,Fh hy,qT (by omega)]
theorem rp{x y:Nat}(hx:x<4294967296)(hy:y<4294967296):IntKind.u32.wrap ((BitVec.ofInt IntKind.u32.bits (x:Int) &&& BitVec.ofInt IntKind.u32.bits (y:Int)).toNat:Int)=((x &&& y:Nat):Int):=by
 have hb:IntKind.u32.bits=32:=rfl;have h0:x &&& y<4294967296:=Nat.and_lt_two_pow (n:=32) x hy;rw[hb,BitVec.toNat_and,Fh hx,Fh hy,qT (by omega)]
def andNot(x y:Nat):Nat:=x &&& (4294967295-y)
theorem wo{x y:Nat}(hx:x<4294967296)(hy:y<4294967296):IntKind.u32.wrap ((BitVec.ofInt IntKind.u32.bits (x:Int) &&& ~~~BitVec.ofInt IntKind.u32.bits (y:Int)).toNat:Int)=((andNot x y:Nat):Int):=by
 have hb:IntKind.u32.bits=32:=rfl;have h1:(~~~BitVec.ofInt 32 (y:Int)).toNat=4294967295-y:=by rw[BitVec.toNat_not,Fh hy]
 have h0:andNot x y<4294967296:=by unfold andNot;exact Nat.and_lt_two_pow (n:=32) x (by omega)
 rw[hb,BitVec.toNat_and,h1,Fh hx];exact qT (by unfold andNot at h0;omega)
theorem nH{x y:Nat}(hx:x<4294967296)(hy:y<4294967296)(j:Nat):(andNot x y).testBit j=(x.testBit j&&!y.testBit j):=by
 unfold andNot;have h2:(4294967295-y).testBit j=(decide (j<32)&&!y.testBit j):=by
  have:=Nat.testBit_two_pow_sub_succ (n:=32) (x:=y) hy j;rw[<-this];congr 1;omega
 rw[Ut,h2];rcases Rw j 32 with h | h
 ·simp[h]
 ·have:x.testBit j=false:=TI (Sc hx (Rz (by decide) h:2 ^ 32<=2 ^ j));simp[this]
theorem tM{x y:Nat}(hx:x<4294967296)(hy:y<4294967296):andNot x y=0↔∀j,x.testBit j=true->y.testBit j=true:=by
 constructor
 ·intro h j hj;have:=nH hx hy j;rw[h,hj] at this;simpa using this.symm
 ·intro h;apply Nat.eq_of_testBit_eq;intro j;rw[nH hx hy];cases hj:x.testBit j with
  | false=>simp
  | true=>simp[h j hj]
theorem WT.G2{op:BinOp}{t ty:TypeId}{xo yo:Operand}{x y r:Nat}(hop:o.op=.binOp op t xo yo ty)(hw:aE ops k o=some true){dst:Nat}(hdst:o.dst=some dst)(hn:Nat.blt dst n=true)(hx:aU C k xo=some (.int .u32 x))(hy:aU C k yo=some (.int .u32 y))
  (hr:b9 op .u32 x y=some (.int .u32 (r:Nat))) (hsh:op≠.shl/\op≠.shr)
  (h:WT C n ops rest ((dst,(.int .u32 (r:Nat)))::k) F own (λk2 F2 own2 rs=>Q k2 F2 own2 (⟨F,own,F,own,[]⟩::rs))):WT C n ops (o::rest) k F own Q:=by
 have hput:∀v,((dst,v)::k:bu)=ck n k o.dst v:=λv=>by rw[hdst,ay hn]
 simp only[hput] at h;refine WT.bin hop hw hx hy ?_ hsh h;cases op<;>first | exact absurd rfl hsh.1 | exact absurd rfl hsh.2 | (simp only[kQ,Sv];exact hr)
theorem WT.DI{t ty:TypeId}{xo yo:Operand}{x y:Nat}(hop:o.op=.binOp .or t xo yo ty)(hw:aE ops k o=some true){dst:Nat}(hdst:o.dst=some dst)(hn:Nat.blt dst n=true)(hx:aU C k xo=some (.int .u32 x))(hy:aU C k yo=some (.int .u32 y))(bx:x<4294967296)(by_:y<4294967296)
  (h:WT C n ops rest ((dst,(.int .u32 ((x ||| y:Nat):Int)))::k) F own (λk2 F2 own2 rs=>Q k2 F2 own2 (⟨F,own,F,own,[]⟩::rs))):WT C n ops (o::rest) k F own Q:=
 WT.G2 hop hw hdst hn hx hy (by simp only[b9,Go.Abs.DI bx by_]) (by simp) h
theorem WT.rp{t ty:TypeId}{xo yo:Operand}{x y:Nat}(hop:o.op=.binOp .and t xo yo ty)(hw:aE ops k o=some true){dst:Nat}(hdst:o.dst=some dst)(hn:Nat.blt dst n=true)(hx:aU C k xo=some (.int .u32 x))(hy:aU C k yo=some (.int .u32 y))(bx:x<4294967296)(by_:y<4294967296)
  (h:WT C n ops rest ((dst,(.int .u32 ((x &&& y:Nat):Int)))::k) F own (λk2 F2 own2 rs=>Q k2 F2 own2 (⟨F,own,F,own,[]⟩::rs))):WT C n ops (o::rest) k F own Q:=
 WT.G2 hop hw hdst hn hx hy (by simp only[b9,Go.Abs.rp bx by_]) (by simp) h
theorem WT.wo{t ty:TypeId}{xo yo:Operand}{x y:Nat}(hop:o.op=.binOp .andNot t xo yo ty)(hw:aE ops k o=some true){dst:Nat}(hdst:o.dst=some dst)(hn:Nat.blt dst n=true)(hx:aU C k xo=some (.int .u32 x))(hy:aU C k yo=some (.int .u32 y))(bx:x<4294967296)(by_:y<4294967296)
  (h:WT C n ops rest ((dst,(.int .u32 ((andNot x y:Nat):Int)))::k) F own (λk2 F2 own2 rs=>Q k2 F2 own2 (⟨F,own,F,own,[]⟩::rs))):WT C n ops (o::rest) k F own Q:=
 WT.G2 hop hw hdst hn hx hy (by simp only[b9,Go.Abs.wo bx by_]) (by simp) h
theorem WT.EA{t ty:TypeId}{xo yo:Operand}{x y:Nat}(hop:o.op=.binOp .sub t xo yo ty)(hw:aE ops k o=some true){dst:Nat}(hdst:o.dst=some dst)(hn:Nat.blt dst n=true)(hx:aU C k xo=some (.int .u32 x))(hy:aU C k yo=some (.int .u32 y))(bx:x<4294967296)(by_:y<=x)
  (h:WT C n ops rest ((dst,(.int .u32 ((x-y:Nat):Int)))::k) F own (λk2 F2 own2 rs=>Q k2 F2 own2 (⟨F,own,F,own,[]⟩::rs))):WT C n ops (o::rest) k F own Q:=
 WT.G2 hop hw hdst hn hx hy (by
  simp only[b9];rw[qT (by omega)];congr 2;omega) (by simp) h
theorem WT.H3{op:BinOp}{t ty:TypeId}{xo yo:Operand}{x y:Nat}{kd:IntKind}{r:Nat}(hop:o.op=.binOp op t xo yo ty)(hw:aE ops k o=some true){dst:Nat}(hdst:o.dst=some dst)(hn:Nat.blt dst n=true)(hx:aU C k xo=some (.int .u32 x))(hy:aU C k yo=some (.int kd (y:Nat)))
  (hr:iU op .u32 x y=some (.int .u32 (r:Nat))) (hsh:op=.shl\/op=.shr)
  (h:WT C n ops rest ((dst,(.int .u32 (r:Nat)))::k) F own (λk2 F2 own2 rs=>Q k2 F2 own2 (⟨F,own,F,own,[]⟩::rs))):WT C n ops (o::rest) k F own Q:=by
 have hput:∀v,((dst,v)::k:bu)=ck n k o.dst v:=λv=>by rw[hdst,ay hn]
 simp only[hput] at h;refine WT.still (l:=[]) hw (by rw[hop];simp only[aY,hx,hy];rfl) (λh0 _=>?_) h;rw[hop];rcases hsh with rfl | rfl
 ·simp only[aN,hx,hy,kQ,hr];rfl
 ·simp only[aN,hx,hy,kQ,hr];rfl
theorem WT.AL{t ty:TypeId}{xo yo:Operand}{x y:Nat}{kd:IntKind}(hop:o.op=.binOp .shl t xo yo ty)(hw:aE ops k o=some true){dst:Nat}(hdst:o.dst=some dst)(hn:Nat.blt dst n=true)(hx:aU C k xo=some (.int .u32 x))(hy:aU C k yo=some (.int kd (y:Nat)))(hy2:y<=32)(hxy:x*2 ^ y<4294967296)
  (h:WT C n ops rest ((dst,(.int .u32 ((x*2 ^ y:Nat):Int)))::k) F own (λk2 F2 own2 rs=>Q k2 F2 own2 (⟨F,own,F,own,[]⟩::rs))):WT C n ops (o::rest) k F own Q:=
 WT.H3 hop hw hdst hn hx hy (by
  have hb:IntKind.u32.bits=32:=rfl;unfold iU;rw[By (by omega)];simp only[hb,Tz,Se hy2];rw[qT]
  ·congr 2
  ·have:(x:Int)*2 ^ y=((x*2 ^ y:Nat):Int):=by rw[TZ,Int.natCast_pow];rfl
   rw[this];omega) (.inl rfl) h
theorem WT.H4{t ty:TypeId}{xo yo:Operand}{x y:Nat}{kd:IntKind}(hop:o.op=.binOp .shr t xo yo ty)(hw:aE ops k o=some true){dst:Nat}(hdst:o.dst=some dst)(hn:Nat.blt dst n=true)(hx:aU C k xo=some (.int .u32 x))(hy:aU C k yo=some (.int kd (y:Nat)))(hy2:y<=32)
  (h:WT C n ops rest ((dst,(.int .u32 ((x / 2 ^ y:Nat):Int)))::k) F own (λk2 F2 own2 rs=>Q k2 F2 own2 (⟨F,own,F,own,[]⟩::rs))):WT C n ops (o::rest) k F own Q:=
 WT.H3 hop hw hdst hn hx hy (by
  have hb:IntKind.u32.bits=32:=rfl;unfold iU;rw[By (by omega)];simp only[hb,Tz,Se hy2];congr 2;rw[Int.natCast_ediv,Int.natCast_pow];exact Int.fdiv_eq_ediv_of_nonneg _ (Int.pow_nonneg (by decide))) (.inr rfl) h
theorem WT.conv(hT:aO C T=true){s d:TypeId}{xo:Operand}{r r2:Row}{k1 k2:IntKind}{x:Int}(hop:o.op=.convert s d xo)(hw:aE ops k o=some true){dst:Nat}(hdst:o.dst=some dst)(hn:Nat.blt dst n=true)(hx:aU C k xo=some (.int k1 x))(hs:rowOf T s=some r2)(hr:rowOf T d=some r)(hd:r.d=.int k2)(hf:k2.wrap x=x)
  (h:WT C n ops rest ((dst,(.int k2 x))::k) F own (λk2 F2 own2 rs=>Q k2 F2 own2 (⟨F,own,F,own,[]⟩::rs))):WT C n ops (o::rest) k F own Q:=by
 have hput:∀v,((dst,v)::k:bu)=ck n k o.dst v:=λv=>by rw[hdst,ay hn]
 simp only[hput] at h;refine WT.still (l:=[]) hw (by rw[hop];rfl) (λh0 _=>?_) h;obtain⟨_,_,_,_,d2,h4,h5⟩:=dz hT hs;rw[hop];simp only[aN,hx,wk,h4,Am hT hr hd,hf];rfl
end
end Go.Abs
/-
 Grammars as data,and how they lie.
-/
set_option linter.unusedVariables false
namespace Go.Abs
open Go
structure Sym where
 term:Bool
 n:Nat
deriving DecidableEq
structure bz where
 left:Nat
 right:List Sym
deriving DecidableEq
structure af where
 ae:Nat
 ak:Nat
 start:Nat
 rules:List bz
def eS:Ty Nat where
 size:=1
 rel:=λ_ l x=>l=[.int .i64 x]
 len:=λ_ _ _ h=>by rw[h];rfl
 one:=λ_ _ _ h=>by rw[h];rfl
 mono:=λ_ _ _ _ _ h=>h
def fh:Ty Sym where
 size:=2
 rel:=λ_ l x=>l=[.bool x.term,.int .i64 x.n]
 len:=λ_ _ _ h=>by rw[h];rfl
 one:=λ_ _ _ h=>by rw[h];rfl
 mono:=λ_ _ _ _ _ h=>h
def bK:Ty bz where
 size:=2
 rel:=λF l x=>∃a n c,l=[.int .i64 x.left,.slice a n c]/\bw fh F a n c x.right
 len:=λ_ _ _ h=>by obtain⟨a,n,c,rfl,_⟩:=h;rfl
 one:=λ_ _ _ h=>by obtain⟨a,n,c,rfl,_⟩:=h;rfl
 mono:=λ_ _ _ _ hF h=>by obtain⟨a,n,c,e,h⟩:=h;exact⟨a,n,c,e,h.mono hF⟩
def E2(F:ar)(v:Value)(g:af):Prop:=∃a n c,v=.agg ⟨[.int .i64 g.ae,.int .i64 g.ak,.int .i64 g.start,.slice a n c]⟩/\bw bK F a n c g.rules
theorem E2.mono{F G:ar}{v:Value}{g:af}(h:E2 F v g)(hF:ar.le F G):E2 G v g:=by
 obtain⟨a,n,c,e,h⟩:=h;exact⟨a,n,c,e,h.mono hF⟩
theorem vM(x y:Sym):((x.term==y.term)&&(((x.n:Int)==(y.n:Int))&&true))=decide (x=y):=by
 obtain⟨a,n⟩:=x;obtain⟨b,m⟩:=y;rw[SH];simp[Int.natCast_inj]
end Go.Abs
namespace Go.Abs
open Go
section
variable {C:Ctx}{n:Nat}{k:bu}{F:ar}{own:a6}{ops rest:List Oper}{o:Oper}{Q:bu->ar->a6->List Rec->Prop}
theorem WT.N2{dst:Nat}{l:List Nat}(hw:aE ops k o=some false)(hdst:o.dst=some dst)(hn:Nat.blt dst n=true)(hl:aY (aU C k) o.op=some l)
  (h:WT C n ops rest ((dst,dq)::k) F own (λk2 F2 own2 rs=>Q k2 F2 own2 (⟨F,own,F,own,l⟩::rs))):WT C n ops (o::rest) k F own Q:=
 WT.skip hw hl (by rw[hdst,ay hn];exact h)
theorem WT.Oj{l:List Nat}(hw:aE ops k o=some false)(hdst:o.dst=none)(hl:aY (aU C k) o.op=some l)
  (h:WT C n ops rest k F own (λk2 F2 own2 rs=>Q k2 F2 own2 (⟨F,own,F,own,l⟩::rs))):WT C n ops (o::rest) k F own Q:=
 WT.skip hw hl (by rw[hdst];exact h)
end
end Go.Abs
namespace Go.Abs
open Go
def kindOf:Op->Nat
 | .load _ _=>1
 | .store _ _ _=>2
 | .binOp _ _ _ _ _=>3
 | .indexAddr _ _ _=>4
 | _=>0
section
variable {C:Ctx}{n:Nat}{k:bu}{F:ar}{own:a6}{ops rest:List Oper}{o:Oper}{Q:bu->ar->a6->List Rec->Prop}
theorem WT.kind(m:Nat)(_:Nat.beq (kindOf o.op) m=true)(h:WT C n ops (o::rest) k F own Q):WT C n ops (o::rest) k F own Q:=h
end
end Go.Abs
/-
 Calls in the forms that walks use;lending;slices that are made and written to.
-/
set_option linter.unusedVariables false
namespace Go.Abs
open Go
def ar.hU(F:ar)(B:List (Nat×aD)):ar:=λj=>match B.find? (λp=>p.1==j) with
 | some p=>some p.2
 | none=>F j
theorem H0{B:List (Nat×aD)}(hn:(B.map (·.1)).Nodup){i:Nat}{b:aD}(h:(i,b)∈B):B.find? (λp=>p.1==i)=some (i,b):=by
 induction B with
 | nil=>cases h
 | cons p B ih=>
  simp only[Na,Sh] at hn;rcases Rt.1 h with rfl | h
  ·simp
  ·have hne:p.1≠i:=λe=>hn.1 (e▸TX h);rw[List.find?_cons,show (p.1==i)=false by simpa using hne];exact ih hn.2 h
theorem ar.Bv{F:ar}{B:List (Nat×aD)}(hn:(B.map (·.1)).Nodup){i:Nat}{b:aD}(h:(i,b)∈B):ar.hU F B i=some b:=by
 unfold ar.hU;rw[H0 hn h]
theorem ar.DE{F:ar}{B:List (Nat×aD)}(h:∀p∈B,F p.1=none):ar.le F (ar.hU F B):=λi b q=>by
 unfold ar.hU;split
 ·rename_i p hp;have h1:=Ug hp;have h2:=List.find?_some hp;have:p.1=i:=by simpa using h2
  have:=h p h1;simp_all
 ·exact q
theorem St.aw{F:ar}{own:a6}{h:aq}{B:List (Nat×aD)}(s:St F (B::own) h) :
  St (ar.hU F B) own h/\ar.le F (ar.hU F B)/\∀i b,(i,b)∈B->ar.hU F B i=some b:=by
 have s0:jA F (B++own.flatten) h:=by simpa [St] using s
 have hnd:=s0.nodup;rw[RV,SD] at hnd;have hap:∀p∈B,F p.1=none:=λp hp=>s0.apart p (R6 _ hp);have hle:=ar.DE hap;refine⟨⟨λi b q=>?_,λp hp=>s0.has p (R7 _ hp),λp hp=>?_,hnd.2.1,s0.wf⟩,hle,λi b hm=>ar.Bv hnd.1 hm⟩
 ·unfold ar.hU at q;split at q
  ·rename_i p hp;cases q;have h1:=Ug hp;have h2:=List.find?_some hp;have:p.1=i:=by simpa using h2
   rw[<-this];exact s0.has p (R6 _ h1)
  ·exact s0.xQ i b q
 ·unfold ar.hU;split
  ·rename_i p2 hp2;have h1:=Ug hp2;have h2:=List.find?_some hp2;have h3:p2.1=p.1:=by simpa using h2
   exact absurd h3 (hnd.2.2 _ (TX h1) _ (TX hp))
  ·exact s0.apart p (R7 _ hp)
theorem Spec.Jp{C:Ctx}{f:FuncId}{args:List Value}{F:ar}{oin:a6}{P:Value->a6->Prop}{B:List (Nat×aD)}
  (spec:∀G,ar.le F G->(∀i b,(i,b)∈B->G i=some b)->Spec C f args G oin λ_ v o=>P v o):Spec C f args F (B::oin) λ_ v o=>∃o',o=B::o'/\P v o':=by
 intro own h hs;have hs:St F (B::(oin++own)) h:=hs;obtain⟨s1,hle,hB⟩:=hs.aw;obtain⟨v,h',F',oout,h1,h2,h3,h4⟩:=spec _ hle hB own h s1;have s0:jA F (B++(oin++own).flatten) h:=by simpa [St] using hs
 have hnd:=s0.nodup;rw[RV,SD] at hnd;have h3':jA F' (oout++own).flatten h':=h3;have hF':∀i b,(i,b)∈B->F' i=some b:=λi b hm=>h2 i b (hB i b hm);refine⟨v,h',F,B::oout,h1,ar.le.refl F,?_,oout,rfl,h4⟩;show jA F (B++(oout++own).flatten) h';refine⟨λi b q=>h3'.xQ i b (h2 i b (hle i b q)),λp hp=>?_,λp hp=>?_,?_,h3'.wf⟩
 ·rcases Rx.1 hp with hp | hp
  ·exact h3'.xQ _ _ (hF' p.1 p.2 hp)
  ·exact h3'.has p hp
 ·rcases Rx.1 hp with hp | hp
  ·exact s0.apart p (R6 _ hp)
  ·have:=h3'.apart p hp;cases hf:F p.1 with
   | none=>rfl
   | some b=>rw[h2 _ _ (hle _ _ hf)] at this;cases this
 ·rw[RV,SD];refine⟨hnd.1,h3'.nodup,λa ha b hb=>?_⟩;obtain⟨p,hp,rfl⟩:=Rg.1 ha;obtain⟨q,hq,rfl⟩:=Rg.1 hb;intro e;have h5:=h3'.apart q hq;rw[<-e,hF' p.1 p.2 hp] at h5;cases h5
section
variable {C:Ctx}{T:RT}{n:Nat}{k:bu}{F:ar}{own:a6}{ops rest:List Oper}{o:Oper}{Q:bu->ar->a6->List Rec->Prop}{α:Type}{R:Ty α}
theorem WT.bN{f:FuncId}{fn:Func}{as:Array Operand}{ts:Array TypeId}{args:List Value}{P:Value->Prop}(hf:C.func f=some fn)(hb:fn.body.isSome=true)(hop:o.op=.call ⟨.value (.func f),as,ts⟩)
  (hw:aE ops k o=some true) {dst:Nat} (hdst:o.dst=some dst) (hn:Nat.blt dst n=true) (hv:dx (aU C k) as.toList=some args) (spec:Spec C f args F [] λ_ v o=>o=[]/\P v)
  (h:∀v,P v->WT C n ops rest ((dst,v)::k) F own (λk2 F2 own2 rs=>Q k2 F2 own2 (⟨F,own,F,own,[]⟩::rs))) :
  WT C n ops (o::rest) k F own Q:=by
 refine WT.step (l:=[]) (by rw[hop];rfl) λe h' hk hs=>?_;obtain⟨v,h1,F1,oout,⟨m,hd⟩,hF,hs1,rfl,hp⟩:=spec own h' hs;refine⟨v,h1,F,own,⟨m,λN hN=>?_⟩,ar.le.refl F,hs1.oG hF,by rw[hdst,ay hn];exact h v hp⟩;unfold ek;rw[eN hk hw];have:aN C (aU C k) h' o.op=some (.call f args):=by
  rw[hop];simp only[aN,aU,hv,lu,hf,hb,OF];simp
 simp only[ef hk.eval this,hd N hN]
theorem WT.dH{f:FuncId}{fn:Func}{as:Array Operand}{ts:Array TypeId}{args:List Value}{P:ar->Value->Prop}(hf:C.func f=some fn)(hb:fn.body.isSome=true)(hop:o.op=.call ⟨.value (.func f),as,ts⟩)
  (hw:aE ops k o=some true) {dst:Nat} (hdst:o.dst=some dst) (hn:Nat.blt dst n=true) (hv:dx (aU C k) as.toList=some args) (spec:Spec C f args F [] λF' v o=>o=[]/\P F' v)
  (h:∀F' v,ar.le F F'->P F' v->WT C n ops rest ((dst,v)::k) F' own (λk2 F2 own2 rs=>Q k2 F2 own2 (⟨F,own,F',own,[]⟩::rs))) :
  WT C n ops (o::rest) k F own Q:=
 WT.Es hf hb hop hw hdst hn hv spec (Rc _) (λF' v oout hF hP=>by obtain⟨rfl,hp⟩:=hP;exact h F' v hF hp)
theorem WT.ph(p:Nat){f:FuncId}{fn:Func}{as:Array Operand}{ts:Array TypeId}{args:List Value}{B:List (Nat×aD)}{dh:List (Nat×aD)->a6}{P:Value->List (Nat×aD)->Prop}(hf:C.func f=some fn)(hb:fn.body.isSome=true)(hop:o.op=.call ⟨.value (.func f),as,ts⟩)
  (hw:aE ops k o=some true) {dst:Nat} (hdst:o.dst=some dst) (hn:Nat.blt dst n=true) (hv:dx (aU C k) as.toList=some args) (hp:own[p]?=some B) (hupd:∀B',mX own p B'=some (dh B'))
  (spec:Spec C f args F [B] λ_ v o=>∃B',o=[B']/\P v B')
  (h:∀v B',P v B'->WT C n ops rest ((dst,v)::k) F (dh B') (λk2 F2 own2 rs=>Q k2 F2 own2 (⟨F,own,F,dh B',[]⟩::rs))) :
  WT C n ops (o::rest) k F own Q:=by
 refine WT.step (l:=[]) (by rw[hop];rfl) λe h' hk hs=>?_;obtain⟨v,h1,F1,oout,⟨m,hd⟩,hF,hs1,B',rfl,hp'⟩:=spec (own.eraseIdx p) h' (hs.perm (bX hp));have e1:=dY _ _ _ _ (hupd B');refine⟨v,h1,F,dh B',⟨m,λN hN=>?_⟩,ar.le.refl F,?_,by rw[hdst,ay hn];exact h v B' hp'⟩
 ·unfold ek;rw[eN hk hw];have:aN C (aU C k) h' o.op=some (.call f args):=by
   rw[hop];simp only[aN,aU,hv,lu,hf,hb,OF];simp
  simp only[ef hk.eval this,hd N hN]
 ·rw[<-e1];exact(hs1.oG hF).perm (gr B' hp).symm
theorem WT.eK(p:Nat){f:FuncId}{fn:Func}{as:Array Operand}{ts:Array TypeId}{args:List Value}{B:List (Nat×aD)}{P:Value->Prop}(hf:C.func f=some fn)(hb:fn.body.isSome=true)(hop:o.op=.call ⟨.value (.func f),as,ts⟩)
  (hw:aE ops k o=some true) {dst:Nat} (hdst:o.dst=some dst) (hn:Nat.blt dst n=true) (hv:dx (aU C k) as.toList=some args) (hp:own[p]?=some B)
  (spec:∀G,ar.le F G->(∀i b,(i,b)∈B->G i=some b)->Spec C f args G [] λ_ v o=>o=[]/\P v)
  (h:∀v,P v->WT C n ops rest ((dst,v)::k) F own (λk2 F2 own2 rs=>Q k2 F2 own2 (⟨F,own,F,own,[]⟩::rs))) :
  WT C n ops (o::rest) k F own Q:=by
 refine WT.step (l:=[]) (by rw[hop];rfl) λe h' hk hs=>?_;obtain⟨v,h1,F1,oout,⟨m,hd⟩,hF,hs1,o',rfl,rfl,hp'⟩:=Spec.Jp spec (own.eraseIdx p) h' (hs.perm (bX hp));refine⟨v,h1,F,own,⟨m,λN hN=>?_⟩,ar.le.refl F,?_,by rw[hdst,ay hn];exact h v hp'⟩
 ·unfold ek;rw[eN hk hw];have:aN C (aU C k) h' o.op=some (.call f args):=by
   rw[hop];simp only[aN,aU,hv,lu,hf,hb,OF];simp
  simp only[ef hk.eval this,hd N hN]
 ·exact(hs1.oG hF).perm (bX hp).symm
theorem WT.aw(p:Nat){B:List (Nat×aD)}{az:a6}(hp:own[p]?=some B)(ho:mX own p []=some az)
  (h:∀G,ar.le F G->(∀i b,(i,b)∈B->G i=some b)->WT C n ops rest k G az Q):WT C n ops rest k F own Q:=by
 intro e h' hk hs;have e1:=dY _ _ _ _ ho;obtain⟨s1,hle,hB⟩:=(hs.perm (bX hp)).aw;have s2:St (ar.hU F B) az h':=by
  rw[<-e1];refine St.perm (own:=[]::own.eraseIdx p) ?_ (gr [] hp).symm;exact s1
 obtain⟨e2,h2,tr,k2,F2,own2,rs,h3,h4,h5,h6⟩:=h _ hle hB e h' hk s2;exact⟨e2,h2,tr,k2,F2,own2,rs,h3,h4,hle.trans h5,h6⟩
theorem AW.aw{c:Code}{A:Ex->bu->ar->a6->Prop}(p:Nat){B:List (Nat×aD)}{az:a6}(hp:own[p]?=some B)(ho:mX own p []=some az)
  (h:∀G,ar.le F G->(∀i b,(i,b)∈B->G i=some b)->AW C n c k G az A):AW C n c k F own A:=by
 intro e h' hk hs;have e1:=dY _ _ _ _ ho;obtain⟨s1,hle,hB⟩:=(hs.perm (bX hp)).aw;have s2:St (ar.hU F B) az h':=by
  rw[<-e1];exact St.perm (own:=[]::own.eraseIdx p) s1 (gr [] hp).symm
 obtain⟨x,e2,h2,k2,F2,own2,h3,h4,h5,h6⟩:=h _ hle hB e h' hk s2;exact⟨x,e2,h2,k2,F2,own2,h3,h4,hle.trans h5,h6⟩
theorem dy.frozen{a:Option Addr}{m c:Nat}{B:List (Nat×aD)}{xs:List α}(hb:dy R F a m c B xs){G:ar}(hG:ar.le F G)(hB:∀i b,(i,b)∈B->G i=some b):bw R G a m c xs:=hb.arr hG hB
theorem WT.bP(hT:aO C T=true)(p:Nat){B:List (Nat×aD)}{dh:List (Nat×aD)->a6}{a:Option Addr}{m c d by_:Nat}{xs ys:List α}{ds:List Value}{t e:Nat}{ts:List TypeId}{r:Row}{z x:Value}{xo so:Operand}
  (hb:dy R F a m c B xs) (hp:own[p]?=some B) (hupd:∀B',mX own p B'=some (dh B')) (hop:o.op=.call ⟨.builtin .append,⟨[so,xo]⟩,⟨t::ts⟩⟩) (hw:aE ops k o=some true) {dst:Nat} (hdst:o.dst=some dst) (hn:Nat.blt dst n=true)
  (hs:aU C k so=some (.slice a m c)) (hx:aU C k xo=some x) (hr:rowOf T t=some r) (hd:r.d=.slice e) (hsz:eY T e=some R.size) (hz:jB T e=some z) (hby:pC T e=some by_)
  (hnew:∀h,St F own h->kG C h e R.size ts.head? x=some (d,ds)) (hds:aF R F ds ys) (hlen:d=ys.length) (hpos:0<d/\0<R.size/\0<by_) (hroom:(m+d)*by_<=140737488355328)
  (h:∀a' c' B',dy R F a' (m+d) c' B' (xs++ys)->WT C n ops rest ((dst,.slice a' (m+d) c')::k) F (dh B') (λk2 F2 own2 rs=>Q k2 F2 own2 (⟨F,own,F,dh B',[]⟩::rs))) :
  WT C n ops (o::rest) k F own Q:=
 WT.append hT p hb hp hop hw hdst hn hs hx hr hd hsz hz hby hnew hds hlen hpos hroom (λa' c' B' hB=>by
  rw[dY _ _ _ _ (hupd B')];exact h a' c' B' hB)
theorem WT.bd(hT:aO C T=true){t e len sz:Nat}{ps:Array (Nat×Operand)}{vs:List (Nat×Value)}{r:Row}{z:Value}{cs:List Value}{cap:Nat}(hop:o.op=.buildSlice t len ps)(hw:aE ops k o=some true){dst:Nat}(hdst:o.dst=some dst)(hn:Nat.blt dst n=true)
  (hps:ez (aU C k) ps.toList=some vs) (hr:rowOf T t=some r) (hd:r.d=.slice e) (hsz:eY T e=some sz) (hz:jB T e=some z) (hok:(Nat.ble (len*sz) 16777216&&Nat.blt 0 sz)=true)
  {cs0:List Value} (hfill:xE (λi=>some (i*sz,sz)) (cX z.cells.toList len) vs=some cs0) (hlen:cs0.length=len*sz) (hcs:takeN (len*sz) cs0=some cs) (hcap:(bif len==0 then 0 else sz)=cap)
  (h:∀i,F i=none->WT C n ops rest ((dst,.slice (some ⟨i,0,none⟩) len cap)::k) F ([(i,.cells false cs)]::own) (λk2 F2 own2 rs=>Q k2 F2 own2 (⟨F,own,F,[(i,.cells false cs)]::own,[]⟩::rs))) :
  WT C n ops (o::rest) k F own Q:=by
 subst hcap;have:=(nl _ _ _ hcs).1;rw[<-hlen,S1] at this;subst this;exact WT.buildSlice hT hop hw hdst hn hps hr hd hsz hz hok (qg _ _ _ hfill) h
end
end Go.Abs
namespace Go.Abs
open Go
theorem k5{i j:Nat}{ps:List (Nat×Nat)}{rs:List Rec}{a b:Rec}(ha:rs[i]?=some a)(hb:rs[j]?=some b)(hk:∀x∈a.looks,b.keeps x)(h:j4 ps rs):j4 ((i,j)::ps) rs:=by
 refine⟨λa' b' ha' hb'=>?_,h⟩;rw[ha] at ha';rw[hb] at hb';cases ha';cases hb';exact .inl hk
theorem FD{i j:Nat}{ps:List (Nat×Nat)}{rs:List Rec}{a b:Rec}(ha:rs[i]?=some a)(hb:rs[j]?=some b)(hij:i<j)(hk:∀h2,St b.F' b.az h2->a.bend.p h2)(h:j4 ps rs):j4 ((i,j)::ps) rs:=by
 refine⟨λa' b' ha' hb'=>?_,h⟩;rw[ha] at ha';rw[hb] at hb';cases ha';cases hb';exact .inr ⟨hij,hk⟩
theorem Bi{b:Rec}:∀y∈([]:List Nat),b.keeps y:=λ_ h=>by cases h
theorem H2{b:Rec}{x:Nat}(h:b.keeps x):∀y∈[x],b.keeps y:=λy hy=>by rw[Rh.1 hy];exact h
theorem IP{r:Rec}{x:Nat}{bp:aD}(p q:Nat){B B':List (Nat×aD)}(h1:r.own[p]?=some B)(h2:(x,bp)∈B)(h3:r.az[q]?=some B')(h4:(x,bp)∈B'):r.keeps x:=
 .inr ⟨bp,Up.2 ⟨B,SI h1,h2⟩,Up.2 ⟨B',SI h3,h4⟩⟩
theorem xO{r:Rec}{x:Nat}{bp:aD}(h:r.F x=some bp):r.keeps x:=.inl ⟨bp,h⟩
end Go.Abs
namespace Go.Abs
open Go
section
variable {C:Ctx}{T:RT}{n:Nat}{k:bu}{F:ar}{own:a6}{ops rest:List Oper}{o:Oper}{Q:bu->ar->a6->List Rec->Prop}{α:Type}{R:Ty α}
theorem WT.QG(hT:aO C T=true){t ty:TypeId}{xo yo:Operand}{a b:Bool}{r:Row}(hop:o.op=.binOp .eql t xo yo ty)(hw:aE ops k o=some true){dst:Nat}(hdst:o.dst=some dst)(hn:Nat.blt dst n=true)
  (hx:aU C k xo=some (.bool a)) (hy:aU C k yo=some (.bool b)) (hr:rowOf T t=some r) (hd:r.d=.bool)
  (h:WT C n ops rest ((dst,.bool (a==b))::k) F own (λk2 F2 own2 rs=>Q k2 F2 own2 (⟨F,own,F,own,[]⟩::rs))):WT C n ops (o::rest) k F own Q:=by
 refine WT.still hw (by rw[hop];simp only[aY,hx,hy];rfl) (λh0 _=>?_) (by rw[hdst,ay hn];exact h);rw[hop];have hu:=rA hT hr hd;simp only[aN,hx,hy,kQ,js,OF,equalA,hu];unfold tK;simp only[hu,fU];rfl
theorem WT.Qt(hT:aO C T=true){t ty:TypeId}{xo yo:Operand}{a b:Bool}{r:Row}(hop:o.op=.binOp .neq t xo yo ty)(hw:aE ops k o=some true){dst:Nat}(hdst:o.dst=some dst)(hn:Nat.blt dst n=true)
  (hx:aU C k xo=some (.bool a)) (hy:aU C k yo=some (.bool b)) (hr:rowOf T t=some r) (hd:r.d=.bool)
  (h:WT C n ops rest ((dst,.bool (!(a==b)))::k) F own (λk2 F2 own2 rs=>Q k2 F2 own2 (⟨F,own,F,own,[]⟩::rs))):WT C n ops (o::rest) k F own Q:=by
 refine WT.still hw (by rw[hop];simp only[aY,hx,hy];rfl) (λh0 _=>?_) (by rw[hdst,ay hn];exact h);rw[hop];have hu:=rA hT hr hd;simp only[aN,hx,hy,kQ,js,OF,equalA,hu];unfold tK;simp only[hu,fU];rfl
theorem WT.N5(hT:aO C T=true){t:TypeId}{ao:Operand}{i off:Nat}{ro:Bool}{cs:List Value}{v:Value}(hb:F i=some (.cells ro cs))(hop:o.op=.load t ao)(hw:aE ops k o=some true){dst:Nat}(hdst:o.dst=some dst)(hn:Nat.blt dst n=true)
  (ha:aU C k ao=some (.pointer (some ⟨i,off,none⟩))) (hr:rI T cs t off=some v)
  (h:WT C n ops rest ((dst,v)::k) F own (λk2 F2 own2 rs=>Q k2 F2 own2 (⟨F,own,F,own,[i]⟩::rs))):WT C n ops (o::rest) k F own Q:=
 WT.uA hop hw ha hb (cl hT hr) (by rw[hdst,ay hn];exact h)
theorem vv{f:FuncId}{fn:Func}{first args capt:List Value}(hf:C.func f=some fn)(hb:fn.body.isSome=true):lu C (.func (.func f) ⟨first⟩ ⟨capt⟩) args=some (.call f (first++args++capt)):=by
 simp only[lu,hf,hb,OF]
theorem WT.fZ{f:FuncId}{fn:Func}{fo:Operand}{as:Array Operand}{ts:Array TypeId}{args args' first capt:List Value}{P:Value->Prop}(hf:C.func f=some fn)(hb:fn.body.isSome=true)(hop:o.op=.call ⟨.value fo,as,ts⟩)
  (hw:aE ops k o=some true) {dst:Nat} (hdst:o.dst=some dst) (hn:Nat.blt dst n=true) (hfo:aU C k fo=some (.func (.func f) ⟨first⟩ ⟨capt⟩)) (hv:dx (aU C k) as.toList=some args) (hargs:first++args++capt=args') (spec:Spec C f args' F [] λ_ v o=>o=[]/\P v)
  (h:∀v,P v->WT C n ops rest ((dst,v)::k) F own (λk2 F2 own2 rs=>Q k2 F2 own2 (⟨F,own,F,own,[]⟩::rs))) :
  WT C n ops (o::rest) k F own Q:=by
 subst hargs;refine WT.step (l:=[]) (by rw[hop];rfl) λe h' hk hs=>?_;obtain⟨v,h1,F1,oout,⟨m,hd⟩,hF,hs1,rfl,hp⟩:=spec own h' hs;refine⟨v,h1,F,own,⟨m,λN hN=>?_⟩,ar.le.refl F,hs1.oG hF,by rw[hdst,ay hn];exact h v hp⟩;unfold ek;rw[eN hk hw];have:aN C (aU C k) h' o.op=some (.call f (first++args++capt)):=by
  rw[hop];simp only[aN,hfo,hv,vv hf hb]
 simp only[ef hk.eval this,hd N hN]
end
end Go.Abs
/-
 Slices that are made and written to;rows of a table;numbers of 32 bits.
-/
set_option linter.unusedVariables false
namespace Go.Abs
open Go
section
variable {C:Ctx}{T:RT}{n:Nat}{k:bu}{F:ar}{own:a6}{ops rest:List Oper}{o:Oper}{Q:bu->ar->a6->List Rec->Prop}{α:Type}{R:Ty α}
theorem WT.iE(d:Nat){v v':Value}(hv:lk k d=some v)(e:v=v')(h:WT C n ops rest ((d,v')::k) F own Q):WT C n ops rest k F own Q:=
 WT.weaken (bD.sQ (e▸hv)) h
theorem AW.iE{c:Code}{A:Ex->bu->ar->a6->Prop}(d:Nat){v v':Value}(hv:lk k d=some v)(e:v=v')(h:AW C n c ((d,v')::k) F own A):AW C n c k F own A:=
 AW.weaken (bD.sQ (e▸hv)) h
theorem WT.dL(hT:aO C T=true){t e s:Nat}{r:Row}{xo io:Operand}{b off m c:Nat}{kd:IntKind}{j:Nat}(hop:o.op=.indexAddr t xo io)(hw:aE ops k o=some true){dst:Nat}(hdst:o.dst=some dst)(hn:Nat.blt dst n=true)
  (hx:aU C k xo=some (.slice (some ⟨b,off,none⟩) m c)) (hi:aU C k io=some (.int kd (j:Nat))) (hr:rowOf T t=some r) (hd:r.d=.slice e) (hs:eY T e=some s) (hj:j<m)
  (h:WT C n ops rest ((dst,.pointer (some ⟨b,off+j*s,none⟩))::k) F own (λk2 F2 own2 rs=>Q k2 F2 own2 (⟨F,own,F,own,[]⟩::rs))):WT C n ops (o::rest) k F own Q:=by
 refine WT.still (l:=[]) hw (by rw[hop];rfl) (λh0 _=>?_) (by rw[hdst,ay hn];exact h);rw[hop];simp only[aN,hx,hi,iJ,bO hT hr hd,cq hT hs];rw[If ⟨Tp j,by omega⟩];simp
theorem WT.MH(hT:aO C T=true){t e s len:Nat}{r:Row}{xo io:Operand}{b off:Nat}{kd:IntKind}{j:Nat}(hop:o.op=.indexAddr t xo io)(hw:aE ops k o=some true){dst:Nat}(hdst:o.dst=some dst)(hn:Nat.blt dst n=true)
  (hx:aU C k xo=some (.pointer (some ⟨b,off,none⟩))) (hi:aU C k io=some (.int kd (j:Nat))) (hr:rowOf T t=some r) (hd:r.d=.array len e) (hs:eY T e=some s) (hj:j<len)
  (h:WT C n ops rest ((dst,.pointer (some ⟨b,off+j*s,none⟩))::k) F own (λk2 F2 own2 rs=>Q k2 F2 own2 (⟨F,own,F,own,[]⟩::rs))):WT C n ops (o::rest) k F own Q:=by
 refine WT.still (l:=[]) hw (by rw[hop];rfl) (λh0 _=>?_) (by rw[hdst,ay hn];exact h);rw[hop];simp only[aN,hx,hi,iJ,si hT hr hd,cq hT hs];rw[If ⟨Tp j,by omega⟩];simp
theorem n9(hT:aO C T=true){t off:Nat}{r:Row}{cs:List Value}{v:Value}(hr:rowOf T t=some r)(hd:r.d.agg=false)(hv:cs[off]?=some v):eI C cs t off=some v:=by
 obtain⟨_,h1,_,_,d,h4,h5⟩:=dz hT hr;unfold eI;rw[h4];simp only[sR h5,hd,Ri];exact hv
theorem WT.loadAt(hT:aO C T=true)(p:Nat){t:TypeId}{ao:Operand}{i off:Nat}{ro:Bool}{cs:List Value}{v:Value}{r:Row}{B:List (Nat×aD)}(hop:o.op=.load t ao)(hw:aE ops k o=some true){dst:Nat}(hdst:o.dst=some dst)(hn:Nat.blt dst n=true)
  (ha:aU C k ao=some (.pointer (some ⟨i,off,none⟩))) (hp:own[p]?=some B) (hq:(i,aD.cells ro cs)∈B) (hr:rowOf T t=some r) (hd:r.d.agg=false) (hv:cs[off]?=some v)
  (h:WT C n ops rest ((dst,v)::k) F own (λk2 F2 own2 rs=>Q k2 F2 own2 (⟨F,own,F,own,[i]⟩::rs))):WT C n ops (o::rest) k F own Q:=
 WT.mD p hop hw ha hp hq (n9 hT hr hd hv) (by rw[hdst,ay hn];exact h)
theorem WT.J9(hT:aO C T=true){t:TypeId}{ao:Operand}{i off:Nat}{ro:Bool}{cs:List Value}{v:Value}{r:Row}(hb:F i=some (.cells ro cs))(hop:o.op=.load t ao)(hw:aE ops k o=some true){dst:Nat}(hdst:o.dst=some dst)(hn:Nat.blt dst n=true)
  (ha:aU C k ao=some (.pointer (some ⟨i,off,none⟩))) (hr:rowOf T t=some r) (hd:r.d.agg=false) (hv:cs[off]?=some v)
  (h:WT C n ops rest ((dst,v)::k) F own (λk2 F2 own2 rs=>Q k2 F2 own2 (⟨F,own,F,own,[i]⟩::rs))):WT C n ops (o::rest) k F own Q:=
 WT.uA hop hw ha hb (n9 hT hr hd hv) (by rw[hdst,ay hn];exact h)
theorem WT.storeAt(hT:aO C T=true)(p q:Nat){B B':List (Nat×aD)}{az:a6}{t:TypeId}{a x:Operand}{i off:Nat}{cs:List Value}{v:Value}(hop:o.op=.store t a x)(hw:aE ops k o=some true)(hd:o.dst=none)(ha:aU C k a=some (.pointer (some ⟨i,off,none⟩)))
  (hx:aU C k x=some v) (hp:own[p]?=some B) (hq:B[q]?=some (i,.cells false cs)) (hm:eY T t=some 1) (hv:v.cells.toList=[v]) (h1:one v=true) (hlt:off<cs.length)
  (hB:B.set q (i,.cells false (cs.set off v))=B') (ho:mX own p B'=some az)
  (h:WT C n ops rest k F az (λk2 F2 own2 rs=>Q k2 F2 own2 (⟨F,own,F,az,[i]⟩::rs))) :
  WT C n ops (o::rest) k F own Q:=by
 have e2:=dY _ _ _ _ ho;subst hB;subst e2;have hs:aV cs off v.cells.toList=cs.set off v:=by
  unfold aV;rw[hv,List.set_eq_take_append_cons_drop,If hlt];rfl
 have:=WT.store (C:=C) (n:=n) (k:=k) (F:=F) (Q:=Q) (rest:=rest) (ops:=ops) p q hop hw ha hx hp hq (cq hT hm) (by rw[hv];rfl) (by rw[hv];simp[h1]) (by omega);rw[hs] at this;exact this (by rw[hd];exact h)
def Lt:Value->Option Value
 | .int k n=>some (.int k n)
 | .bool b=>some (.bool b)
 | .slice a n c=>some (.slice a n c)
 | .pointer p=>some (.pointer p)
 | .map m=>some (.map m)
 | _=>none
theorem JF:∀{v w:Value},Lt v=some w->v=w/\v.cells.toList=[w]
 | .int _ _,_,h=>by cases h;exact⟨rfl,rfl⟩
 | .bool _,_,h=>by cases h;exact⟨rfl,rfl⟩
 | .slice _ _ _,_,h=>by cases h;exact⟨rfl,rfl⟩
 | .pointer _,_,h=>by cases h;exact⟨rfl,rfl⟩
 | .map _,_,h=>by cases h;exact⟨rfl,rfl⟩
 | .float ..,_,h=>by cases h
 | .complex ..,_,h=>by cases h
 | .string ..,_,h=>by cases h
 | .chan ..,_,h=>by cases h
 | .func ..,_,h=>by cases h
 | .nilFunc,_,h=>by cases h
 | .iface ..,_,h=>by cases h
 | .nilIface,_,h=>by cases h
 | .agg ..,_,h=>by cases h
 | .tuple ..,_,h=>by cases h
theorem WT.nD(hT:aO C T=true){t e by_:Nat}{lo co:Operand}{l:Nat}{r:Row}{z zc:Value}(hop:o.op=.makeSlice t lo co)(hw:aE ops k o=some true){dst:Nat}(hdst:o.dst=some dst)(hn:Nat.blt dst n=true)
  (hl:aU C k lo=some (.int .i64 (l:Nat))) (hc:aU C k co=some (.int .i64 (l:Nat))) (hr:rowOf T t=some r) (hd:r.d=.slice e) (hsz:eY T e=some 1) (hz:jB T e=some z) (hzn:Lt z=some zc) (hby:pC T e=some by_)
  (hroom:l<=281474976710656/\by_*l<=281474976710656)
  (h:∀i,F i=none->WT C n ops rest ((dst,.slice (some ⟨i,0,none⟩) l (bif l==0 then 0 else 1))::k) F ([(i,.cells false (List.replicate l zc))]::own) (λk2 F2 own2 rs=>Q k2 F2 own2 (⟨F,own,F,[(i,.cells false (List.replicate l zc))]::own,[]⟩::rs))) :
  WT C n ops (o::rest) k F own Q:=by
 have hzc:=(JF hzn).2;have hrows:cX z.cells.toList l=List.replicate l zc:=by
  rw[hzc];clear hroom h hl hc
  induction l with
  | zero=>rfl
  | succ l ih=>simp only[cX,ih,TE];rfl
 refine WT.new (mk:=λi=>.slice (some ⟨i,0,none⟩) l (bif l==0 then 0 else 1)) (l:=[]) hw (by rw[hop];rfl) (λh0 _=>?_) (λi hi=>by rw[hdst,ay hn];exact h i hi);rw[hop];simp only[aN,hl,hc,iV,bO hT hr hd,cq hT hsz,ej hT hz,jQ hT hby];have h2:((by_:Nat):Int)*(l:Int)<=281474976710656:=by
  have:=hroom.2;have h2:((by_*l:Nat):Int)<=281474976710656:=by omega
  rwa [TZ] at h2
 have h3:(0:Int)<=l/\True/\(l:Int)<=281474976710656/\(by_:Int)*(l:Int)<=281474976710656/\0<1:=⟨Tp l,trivial,by omega,h2,by decide⟩;rw[If h3];simp[hrows]
theorem WT.My{t ty:TypeId}{xo yo:Operand}{x y:Nat}(hop:o.op=.binOp .mul t xo yo ty)(hw:aE ops k o=some true){dst:Nat}(hdst:o.dst=some dst)(hn:Nat.blt dst n=true)(hx:aU C k xo=some (.int .u32 x))(hy:aU C k yo=some (.int .u32 y))
  (h:WT C n ops rest ((dst,.int .u32 ((x*y % 4294967296:Nat):Int))::k) F own (λk2 F2 own2 rs=>Q k2 F2 own2 (⟨F,own,F,own,[]⟩::rs))):WT C n ops (o::rest) k F own Q:=
 WT.G2 hop hw hdst hn hx hy (by
  have hs:IntKind.u32.signed=false:=rfl;have hbits:IntKind.u32.bits=32:=rfl;simp only[b9,IntKind.wrap,hs,hbits,Ub];have:(2:Int) ^ 32=4294967296:=rfl;rw[this];simp) (by simp) h
end
structure uX(α:Type) where
 cell:α->Value
 one:∀x,Go.Abs.one (cell x)=true
 cells:∀x,(cell x).cells.toList=[cell x]
def yM:uX Nat:=⟨λx=>.int .u32 x,λ_=>rfl,λ_=>rfl⟩
def aL:uX Bool:=⟨λx=>.bool x,λ_=>rfl,λ_=>rfl⟩
inductive Rows{α:Type}(K:uX α):List Value->List (Nat×aD)->List (List α)->Prop
 | nil:Rows K [] [] []
 | cons {id c:Nat} {vs:List Value} {bs:List (Nat×aD)} {row:List α} {rows:List (List α)}:(c=if row.length=0 then 0 else 1)->Rows K vs bs rows->
   Rows K (.slice (some ⟨id,0,none⟩) row.length c::vs) ((id,.cells false (row.map K.cell))::bs) (row::rows)
section
variable {α:Type}{K:uX α}
theorem Rows.len{vs:List Value}{bs:List (Nat×aD)}{rows:List (List α)}(h:Rows K vs bs rows):vs.length=rows.length/\bs.length=rows.length:=by
 induction h with
 | nil=>simp
 | cons _ _ ih=>simp[ih]
theorem Rows.at{vs:List Value}{bs:List (Nat×aD)}{rows:List (List α)}(h:Rows K vs bs rows):∀(r:Nat) (row:List α),rows[r]?=some row->
  ∃id c,vs[r]?=some (.slice (some ⟨id,0,none⟩) row.length c)/\bs[r]?=some (id,.cells false (row.map K.cell))/\(c=if row.length=0 then 0 else 1):=by
 induction h with
 | nil=>intro r row h;simp at h
 | cons hc _ ih=>
  intro r row h;cases r with
  | zero=>simp at h;subst h;exact⟨_,_,rfl,rfl,hc⟩
  | succ r=>exact ih r row (by simpa using h)
theorem Rows.set{vs:List Value}{bs:List (Nat×aD)}{rows:List (List α)}(h:Rows K vs bs rows):∀(r:Nat) (row row':List α) (id:Nat),rows[r]?=some row->row'.length=row.length->bs[r]?=some (id,.cells false (row.map K.cell))->
  Rows K vs (bs.set r (id,.cells false (row'.map K.cell))) (rows.set r row'):=by
 induction h with
 | nil=>intro r row row' id h;simp at h
 | cons hc h2 ih=>
  intro r row row' id h hl hb;cases r with
  | zero=>
   simp at h;subst h;simp at hb;obtain⟨rfl,_⟩:=hb;simp only[Tq];rw[<-hl];exact Rows.cons (by rw[hl];exact hc) h2
  | succ r=>exact Rows.cons hc (ih r row row' id (by simpa using h) hl (by simpa using hb))
theorem Rows.snoc{vs:List Value}{bs:List (Nat×aD)}{rows:List (List α)}(h:Rows K vs bs rows){id c:Nat}{row:List α}(hc:c=if row.length=0 then 0 else 1) :
  Rows K (vs++[.slice (some ⟨id,0,none⟩) row.length c]) (bs++[(id,.cells false (row.map K.cell))]) (rows++[row]):=by
 induction h with
 | nil=>exact Rows.cons hc Rows.nil
 | cons hc2 _ ih=>exact Rows.cons hc2 ih
theorem cU{R:Ty α}(hs:R.size=1)(hrel:∀F x,R.rel F [K.cell x] x){F:ar}{id c:Nat}{row:List α}(hc:c=if row.length=0 then 0 else 1){ro:Bool}(hF:F id=some (.cells ro (row.map K.cell))) :
  bw R F (some ⟨id,0,none⟩) row.length c row:=by
 refine⟨rfl,?_,?_,λh=>(by cases h),λp hp=>(by cases hp;rfl),λj x hj=>?_⟩
 ·rw[hs,hc];split<;>simp
 ·rw[hc];split
  ·intro _;assumption
  ·intro h;cases h
 ·refine⟨id,0,ro,_,[K.cell x],rfl,hF,?_,hrel F x⟩;rw[hs,Rn,RQ];unfold bF;have:((row.map K.cell).drop j).take 1=[K.cell x]:=by
   have hlt:j<row.length:=(RH.1 hj).1;rw[RX (by simpa using hlt)];rw[RL hlt] at hj;simp at hj;simp[hj]
  rw[this];rfl
theorem Rows.arr{R:Ty α}(hs:R.size=1)(hrel:∀F x,R.rel F [K.cell x] x){vs:List Value}{bs:List (Nat×aD)}{rows:List (List α)}(h:Rows K vs bs rows){F:ar}(hF:∀i b,(i,b)∈bs->F i=some b){o c:Nat}{ro:Bool}
  (hc:c=if rows.length=0 then 0 else 1) (ho:F o=some (.cells ro vs)):bw (cg R) F (some ⟨o,0,none⟩) rows.length c rows:=by
 refine⟨rfl,?_,?_,λh=>(by cases h),λp hp=>(by cases hp;rfl),λj x hj=>?_⟩
 ·show c=0\/c=1;rw[hc];split<;>simp
 ·rw[hc];split
  ·intro _;assumption
  ·intro h;cases h
 ·obtain⟨id,c2,h1,h2,h3⟩:=h.at j x hj;refine⟨o,0,ro,vs,[_],rfl,ho,?_,_,_,_,rfl,cU hs hrel h3 (hF _ _ (SI h2))⟩;show bF vs (0+j*1) 1=_;rw[Rn,RQ];unfold bF;have hlt:j<vs.length:=(RH.1 h1).1;have:(vs.drop j).take 1=[.slice (some ⟨id,0,none⟩) x.length c2]:=by
   rw[RX hlt];rw[RL hlt] at h1;simp at h1;simp[h1]
  rw[this];rfl
end
end Go.Abs
/-
 From a function's contract over the abstract machine to its calls in the model: arguments that are numbers and slices of numbers.
-/
set_option linter.unusedVariables false
namespace Go.Abs
open Go Go.ChangeShapes Go.WideShapes Go.RowKit
theorem C5{σ:aZ}:∀{v:Value},tA v=true->aJ σ v v
 | .int _ _,_=>rfl
 | .bool _,_=>rfl
 | .float ..,h=>by cases h
 | .complex ..,h=>by cases h
 | .string ..,h=>by cases h
 | .pointer ..,h=>by cases h
 | .slice ..,h=>by cases h
 | .map ..,h=>by cases h
 | .chan ..,h=>by cases h
 | .func ..,h=>by cases h
 | .nilFunc,h=>by cases h
 | .iface ..,h=>by cases h
 | .nilIface,h=>by cases h
 | .agg ..,h=>by cases h
 | .tuple ..,h=>by cases h
def c6:List (Nat×Loc)->Nat->Option Loc
 | [],_=>none
 | (i,l)::ls,j=>if i=j then some l else c6 ls j
theorem jU:∀(a b:List (Nat×Loc)) (j:Nat),c6 (a++b) j=match c6 a j with | some l=>some l | none=>c6 b j
 | [],b,j=>by simp[c6]
 | (i,l)::a,b,j=>by
  simp only[Tl,c6];split
  ·rfl
  ·exact jU a b j
theorem Gc{l:List (Nat×aD)}(hn:(l.map (·.1)).Nodup){i:Nat}{b:aD}(h:(i,b)∈l):(gk l).get i=some b:=by
 induction l with
 | nil=>cases h
 | cons p l ih=>
  simp only[Na,Sh] at hn;simp only[gk];rw[T.kI];rcases Rt.1 h with rfl | h
  ·simp
  ·have:i≠p.1:=λe=>hn.1 (e▸TX h);rw[By this];exact ih hn.2 h
theorem Bc{W:World}{b off:Nat}{cs:List Value}(hne:cs≠[])(hc:∀j v,cs[j]?=some v->W.cell? ⟨b,off+j,none⟩=some v)(hw:cs.all tA=true) :
  ∃l:Loc,l.bp=b/\l.off=off/\off+cs.length<=l.size/\∀σ,kS σ W l (.cells true cs):=by
 obtain⟨c,cs',rfl⟩:=List.exists_cons_of_ne_nil hne;have h0:=hc 0 c rfl;unfold World.cell? at h0;split at h0
 ·rename_i arr ty fr hh;have hcell:∀j v,(c::cs')[j]?=some v->arr[off+j]?=some v:=λj v hj=>by
   have:=hc j v hj;unfold World.cell? at this;simp only[hh] at this;simpa using this
  have hlen:off+(c::cs').length<=arr.size:=by
   have:=hcell cs'.length ((c::cs')[cs'.length]'(by simp)) (RL (by simp));have:=(Ro.1 this).1;simp;omega
  have hlist:(arr.toList.drop off).take (c::cs').length=c::cs':=by
   apply R5;intro j;rw[RD,RI];split
   ·rename_i hj;have:=hcell j ((c::cs')[j]) (RL hj);rw[RL hj,<-this];simp
   ·rename_i hj;rw[Ry (by omega)]
  refine⟨⟨b,off,arr.size⟩,rfl,rfl,hlen,λσ=>⟨arr,ty,fr,hh,rfl,λh=>(by cases h),hlen,?_⟩⟩;have hself:∀l:List Value,l.all tA=true->aH σ l l:=by
   intro l
   induction l with
   | nil=>intro _;rfl
   | cons v l ih=>
    intro h;simp only[List.all_cons,IN] at h;exact⟨v,l,rfl,C5 h.1,ih h.2⟩
  show aH σ (c::cs') ((arr.toList.drop off).take (c::cs').length);rw[hlist];exact hself _ hw
 ·cases h0
def zY(tI:TypeId)(F:ar):List TypeId->List Value->Prop
 | [],aa=>aa=[]
 | t::ts,aa=>∃a aa',aa=a::aa'/\(if t=tI then ∃n,a=.int .i64 n else ∃b m c l,a=.slice b m c/\bw fm F b m c l/\m<=9223372036854775807)/\zY tI F ts aa'
section
variable {H:Type}{enc:TypeId×Value->H}{P:Program}{W:World}
theorem Ic{zs:List Int}{len:Nat}(hl:len<=zs.length)(hz:zs≠[]){k:Nat}{F:ar}(hF:F k=some (.cells true (zs.map λn=>Value.int .i64 n))):bw fm F (some ⟨k,0,none⟩) len 1 (zs.take len):=by
 refine⟨by simp;omega,.inr rfl,λh=>(by cases h),λh=>(by cases h),λp hp=>(by cases hp;rfl),λj x hj=>?_⟩;rw[RD] at hj;split at hj
 ·refine⟨k,0,true,_,[.int .i64 x],rfl,hF,?_,rfl⟩;show bF _ (0+j*1) 1=_;rw[Rn,RQ];unfold bF;have hlt:j<zs.length:=(RH.1 hj).1;have:((zs.map λn=>Value.int .i64 n).drop j).take 1=[.int .i64 x]:=by
   rw[RX (by simpa using hlt)];rw[RL hlt] at hj;simp at hj;simp[hj]
  rw[this];rfl
 ·cases hj
theorem Be{tI tS:TypeId}(hI:P.underlying tI=some (.int .i64))(hS:P.underlying tS=some (.slice tI))(hc:P.cellsOf tI=1)(hne:tS≠tI){base:Nat} :
  ∀(ts:List TypeId) (vs:List Value) (ds:List (DataW H)) (ps:List MemPlace) (k0:Nat),DataW.TrodAll enc P W 0 (λ_=>true) true ts vs ds ps->
  (∀(j:Nat) (t:TypeId) (v:Value),ts[j]?=some t->vs[j]?=some v->Value.okWide P W .any base t v)->(∀t∈ts,t=tI\/t=tS)->
  ∃(aa:List Value) (blks:List (Nat×aD)) (locs:List (Nat×Loc)),(∀p∈blks,k0<=p.1/\p.1<k0+ts.length/\qm p.2=true/\∃l,c6 locs p.1=some l/\∀σ,kS σ W l p.2)/\
   (∀i l,c6 locs i=some l->k0<=i/\i<k0+ts.length)/\(blks.map (·.1)).Nodup/\(∀σ:aZ,(∀i l,c6 locs i=some l->σ i=some l)->aH σ aa vs)/\
   (∀F:ar,(∀p∈blks,F p.1=some p.2)->zY tI F ts aa)/\
   (∀W',Below W.heap.size W W'->∀sp:Nat->Bool,(∀p∈ps,sp p.block=true)->DataW.TrodAll enc P W' 0 sp true ts vs ds ps)
 | [],vs,ds,ps,k0,h,_,_=>by
  obtain⟨rfl,rfl,rfl⟩:=trodAll_nil h;exact⟨[],[],[],λp hp=>(by cases hp),λi l hl=>(by cases hl),Te,λσ _=>rfl,λF _=>rfl,λW' _ sp _=>rfl⟩
 | t::ts,vs,ds,ps,k0,h,hok,hts=>by
  obtain⟨v,vs',d,ds',p,q,rfl,rfl,rfl,hd,hrest⟩:=trodAll_cons h;obtain⟨aa,blks,locs,h1,h2,h3,h4,h5,h6⟩:=Be hI hS hc hne ts vs' ds' q (k0+1) hrest (λj t v hj hv=>hok (j+1) t v (by simpa using hj) (by simpa using hv)) (λt ht=>hts t (I9 _ ht));have hv:=hok 0 t v rfl rfl;have hlt:∀j,k0+1<=j->j<k0+1+ts.length->k0<=j/\j<k0+(t::ts).length:=λj a b=>by simp;omega
  rcases hts t (Rl ..) with rfl | rfl
  ·obtain⟨n,rfl,rfl,rfl,hwf⟩:=open_int hI hv hd;refine⟨.int .i64 n::aa,blks,locs,λp hp=>?_,λi l hl=>?_,h3,λσ hσ=>⟨_,_,rfl,rfl,h4 σ hσ⟩,λF hF=>⟨_,_,rfl,by rw[If rfl];exact⟨n,rfl⟩,h5 F hF⟩,λW' hW sp hsp=>?_⟩
   ·obtain⟨a,b,r⟩:=h1 p hp;exact⟨(hlt _ a b).1,(hlt _ a b).2,r⟩
   ·obtain⟨a,b⟩:=h2 i l hl;exact hlt _ a b
   ·exact⟨[],q,shut_int hI hwf,h6 W' hW sp (λp hp=>hsp p (by simpa using hp)),by simp⟩
  ·obtain⟨av,len,cap,rfl⟩:=okWide_slice hS hv;obtain⟨fuel,hf⟩:=hd;rcases open_ints hS hI hc hf with ⟨e1,e2⟩ | ⟨a,len',cap',zs,e1,hb,hl,hm,hz,hx,hcell,hwf⟩
   ·simp only[Value.cells,Rv,Ui] at e1;cases e1;simp only[RJ] at e2;obtain⟨rfl,rfl⟩:=e2;refine⟨.slice none 0 0::aa,blks,locs,λp hp=>?_,λi l hl=>?_,h3,λσ hσ=>⟨_,_,rfl,⟨rfl,rfl,rfl⟩,h4 σ hσ⟩,λF hF=>⟨_,_,rfl,by rw[By hne];exact⟨none,0,0,[],rfl,bw.gq _ _,by decide⟩,h5 F hF⟩,λW' hW sp hsp=>?_⟩
    ·obtain⟨a,b,r⟩:=h1 p hp;exact⟨(hlt _ a b).1,(hlt _ a b).2,r⟩
    ·obtain⟨a,b⟩:=h2 i l hl;exact hlt _ a b
    ·refine⟨[],q,⟨1,?_⟩,h6 W' hW sp (λp hp=>hsp p (by simpa using hp)),by simp⟩;rw[DataW.trod_step];unfold DataW.trodStep;simp[hS,Value.cells]
   ·simp only[Value.cells,Rv,Ui] at e1;cases e1;simp only[RJ] at hx;obtain⟨rfl,rfl⟩:=hx;simp only[Sv] at hz;have reread:∀W',Below W.heap.size W W'->∀sp:Nat->Bool,(∀p∈MemPlace.row a zs.length++q,sp p.block=true)->DataW.TrodAll enc P W' 0 sp true (t::ts) (.slice (some a) len cap::vs') (.slice (lits .i64 (zs.take len)) (lits .i64 (zs.drop len))::ds') (MemPlace.row a zs.length++q):=by
     intro W' hW sp hsp;refine⟨_,q,⟨2,?_⟩,h6 W' hW sp (λp hp=>hsp p (by simp[hp])),rfl⟩;have hsp2:zs.length=if sp a.block then cap else len:=by
      rcases Tb cap with h0 | h0
      ·have:len=0:=by omega
       rw[hz,h0,this];split<;>rfl
      ·have:sp a.block=true:=by
        have hmem:MemPlace.cell a.block a.off∈MemPlace.row a zs.length:=by
         unfold MemPlace.row;simp only[Rg,Rm];exact⟨0,by omega,by simp⟩
        exact hsp _ (R6 _ hmem)
       rw[this,hz];rfl
     refine shut_ints 0 hS hI hc (RC _) hl hm hsp2 (λi hi=>?_) hwf;have h7:=hcell i hi;have hblk:(a.add i).block<W.heap.size:=by
      unfold World.cell? at h7;split at h7
      ·rename_i hh;exact(Ro.1 hh).1
      ·cases h7
     rw[hW.cell hblk];exact h7
    rcases Tb cap with h0 | h0
    ·have hl0:len=0:=by omega
     subst h0;subst hl0
     refine⟨.slice (some ⟨k0,0,none⟩) 0 0::aa,blks,(k0,⟨a.block,0,0⟩)::locs,λp hp=>?_,λi l hl=>?_,h3,λσ hσ=>⟨_,_,rfl,⟨⟨a.block,0,0⟩,a,0,hσ k0 _ (by simp[c6]),rfl,rfl,AS _,λ_=>rfl,λh=>absurd rfl h⟩,h4 σ λi l hl=>hσ i l ?_⟩,
      λF hF=>⟨_,_,rfl,by rw[By hne];exact⟨_,0,0,[],rfl,⟨rfl,.inl rfl,λ_=>rfl,λh=>(by cases h),λp hp=>(by cases hp;rfl),λj x hj=>(by simp at hj)⟩,by decide⟩,h5 F hF⟩,reread⟩
     ·obtain⟨a1,b1,r1,l,r2,r3⟩:=h1 p hp;refine⟨(hlt _ a1 b1).1,(hlt _ a1 b1).2,r1,l,?_,r3⟩;simp only[c6];rw[By (by omega)];exact r2
     ·simp only[c6] at hl;split at hl
      ·rename_i e;subst e;simp
      ·obtain⟨a1,b1⟩:=h2 i l hl;exact hlt _ a1 b1
     ·have:=h2 i l hl;simp only[c6];rw[By (by omega)];exact hl
    ·have hzne:zs≠[]:=by intro e;subst e;simp at hz;omega
     have hspot:a.spot=none:=by
      have:=hcell 0 (by omega);unfold World.cell? at this;split at this
      ·split at this
       ·cases this
       ·rename_i hs;have hs':a.spot.isSome=false:=by simpa [Addr.add] using hs
        cases hsp:a.spot with
        | none=>rfl
        | some s=>rw[hsp] at hs';cases hs'
      ·cases this
     obtain⟨l0,hl1,hl2,hl3,hl4⟩:=Bc (W:=W) (b:=a.block) (off:=a.off) (cs:=zs.map λn=>Value.int .i64 n) (by simpa using hzne) (λj v hj=>by
      rw[Re] at hj;cases hzj:zs[j]? with
      | none=>rw[hzj] at hj;cases hj
      | some z=>
       rw[hzj] at hj;simp at hj;subst hj;have hjl:j<zs.length:=(RH.1 hzj).1;have:=hcell j hjl
       rw[show a.add j=⟨a.block,a.off+j,none⟩ by
        obtain⟨ab,ao,asp⟩:=a;simp only at hspot;subst hspot;exact add_plain ab ao j] at this
       rw[this];simp[List.getD,hzj]) (by simp[tA])
     rw[Rq] at hl3
     refine⟨.slice (some ⟨k0,0,none⟩) len 1::aa,(k0,.cells true (zs.map λn=>Value.int .i64 n))::blks,(k0,l0)::locs,λp hp=>?_,λi l hl=>?_,?_,λσ hσ=>⟨_,_,rfl,⟨l0,a,cap,hσ k0 _ (by simp[c6]),rfl,rfl,hl,λh=>(by cases h),λ_=>⟨?_,?_⟩⟩,h4 σ λi l hl=>hσ i l ?_⟩,
      λF hF=>⟨_,_,rfl,by rw[By hne];exact⟨_,len,1,zs.take len,rfl,Ic (by omega) hzne (hF (k0,_) (Rl ..)),by unfold maxLen at hm;omega⟩,h5 F (λp hp=>hF p (I9 _ hp))⟩,reread⟩
     ·rcases Rt.1 hp with rfl | hp
      ·exact⟨AS _,by simp,by simp[qm,tA],l0,by simp[c6],hl4⟩
      ·obtain⟨a1,b1,r1,l,r2,r3⟩:=h1 p hp;refine⟨(hlt _ a1 b1).1,(hlt _ a1 b1).2,r1,l,?_,r3⟩;simp only[c6];rw[By (by omega)];exact r2
     ·simp only[c6] at hl;split at hl
      ·rename_i e;subst e;simp
      ·obtain⟨a1,b1⟩:=h2 i l hl;exact hlt _ a1 b1
     ·simp only[Na,Sh];refine⟨λhm=>?_,h3⟩;obtain⟨p,hp,e⟩:=Rg.1 hm;have:=(h1 p hp).1;omega
     ·rw[hl1,hl2];cases a;simp at hspot;subst hspot;rfl
     ·show l0.off+0+cap*1<=l0.size;omega
     ·have:=h2 i l hl;simp only[c6];rw[By (by omega)];exact hl
end
end Go.Abs
/-
 Calls that are lent one slot and handed another,or that give back a new slot;raw values;tables.
-/
set_option linter.unusedVariables false
namespace Go.Abs
open Go
section
variable {C:Ctx}{T:RT}{n:Nat}{k:bu}{F:ar}{own:a6}{ops rest:List Oper}{o:Oper}{Q:bu->ar->a6->List Rec->Prop}{α:Type}{R:Ty α}
theorem WT.sN(p:Nat){f:FuncId}{fn:Func}{as_:Array Operand}{ts:Array TypeId}{args:List Value}{B:List (Nat×aD)}{P:Value->List (Nat×aD)->Prop}(hf:C.func f=some fn)(hb:fn.body.isSome=true)(hop:o.op=.call ⟨.value (.func f),as_,ts⟩)
  (hw:aE ops k o=some true) {dst:Nat} (hdst:o.dst=some dst) (hn:Nat.blt dst n=true) (hv:dx (aU C k) as_.toList=some args) (hp:own[p]?=some B)
  (spec:∀G,ar.le F G->(∀i b,(i,b)∈B->G i=some b)->Spec C f args G [] λ_ v o=>∃B',o=[B']/\P v B')
  (h:∀v B',P v B'->WT C n ops rest ((dst,v)::k) F (B'::own) (λk2 F2 own2 rs=>Q k2 F2 own2 (⟨F,own,F,B'::own,[]⟩::rs))) :
  WT C n ops (o::rest) k F own Q:=by
 refine WT.step (l:=[]) (by rw[hop];rfl) λe h' hk hs=>?_;obtain⟨v,h1,F1,oout,⟨m,hd⟩,hF,hs1,o',rfl,B',rfl,hp'⟩:=Spec.Jp spec (own.eraseIdx p) h' (hs.perm (bX hp));refine⟨v,h1,F,B'::own,⟨m,λN hN=>?_⟩,ar.le.refl F,?_,by rw[hdst,ay hn];exact h v B' hp'⟩
 ·unfold ek;rw[eN hk hw];have:aN C (aU C k) h' o.op=some (.call f args):=by
   rw[hop];simp only[aN,aU,hv,lu,hf,hb,OF];simp
  simp only[ef hk.eval this,hd N hN]
 ·refine(hs1.oG hF).perm ?_;refine(List.Perm.swap _ _ _).trans (List.Perm.cons B' ?_);exact(bX hp).symm
theorem WT.lC{f:FuncId}{fn:Func}{as_:Array Operand}{ts:Array TypeId}{args:List Value}{P:ar->Value->List (Nat×aD)->Prop}(hf:C.func f=some fn)(hb:fn.body.isSome=true)(hop:o.op=.call ⟨.value (.func f),as_,ts⟩)
  (hw:aE ops k o=some true) {dst:Nat} (hdst:o.dst=some dst) (hn:Nat.blt dst n=true) (hv:dx (aU C k) as_.toList=some args)
  (spec:Spec C f args F [] λF' v o=>∃B',o=[B']/\P F' v B')
  (h:∀F' v B',ar.le F F'->P F' v B'->WT C n ops rest ((dst,v)::k) F' (B'::own) (λk2 F2 own2 rs=>Q k2 F2 own2 (⟨F,own,F',B'::own,[]⟩::rs))) :
  WT C n ops (o::rest) k F own Q:=
 WT.Es hf hb hop hw hdst hn hv spec (Rc _) (λF' v oout hF hP=>by obtain⟨B',rfl,hp⟩:=hP;exact h F' v B' hF hp)
theorem WT.oU(p q:Nat){f:FuncId}{fn:Func}{as_:Array Operand}{ts:Array TypeId}{args:List Value}{B D:List (Nat×aD)}{fr:a6}{dh:List (Nat×aD)->a6}{P:Value->List (Nat×aD)->Prop}(hf:C.func f=some fn)(hb:fn.body.isSome=true)(hop:o.op=.call ⟨.value (.func f),as_,ts⟩)
  (hw:aE ops k o=some true) {dst:Nat} (hdst:o.dst=some dst) (hn:Nat.blt dst n=true) (hv:dx (aU C k) as_.toList=some args) (hp:own.Perm (B::D::fr)) (hupd:∀D',(B::D'::fr).Perm (dh D'))
  (spec:∀G,ar.le F G->(∀i b,(i,b)∈B->G i=some b)->Spec C f args G [D] λ_ v o=>∃D',o=[D']/\P v D')
  (h:∀v D',P v D'->WT C n ops rest ((dst,v)::k) F (dh D') (λk2 F2 own2 rs=>Q k2 F2 own2 (⟨F,own,F,dh D',[]⟩::rs))) :
  WT C n ops (o::rest) k F own Q:=by
 refine WT.step (l:=[]) (by rw[hop];rfl) λe h' hk hs=>?_;obtain⟨v,h1,F1,oout,⟨m,hd⟩,hF,hs1,o',rfl,D',rfl,hp'⟩:=Spec.Jp spec fr h' (hs.perm hp);refine⟨v,h1,F,dh D',⟨m,λN hN=>?_⟩,ar.le.refl F,(hs1.oG hF).perm (hupd D'),by rw[hdst,ay hn];exact h v D' hp'⟩;unfold ek;rw[eN hk hw];have:aN C (aU C k) h' o.op=some (.call f args):=by
  rw[hop];simp only[aN,aU,hv,lu,hf,hb,OF];simp
 simp only[ef hk.eval this,hd N hN]
end
def iC:Ty Value where
 size:=1
 rel:=λ_ l x=>l=[x]/\Go.Abs.one x=true
 len:=λ_ _ _ h=>by rw[h.1];rfl
 one:=λ_ _ _ h=>by rw[h.1];simp[h.2]
 mono:=λ_ _ _ _ _ h=>h
theorem sf{F:ar}{cs vs:List Value}(h:aF iC F cs vs):cs=vs:=by
 induction h with
 | nil=>rfl
 | cons h1 _ ih=>rw[h1.1,ih];rfl
theorem tv{α:Type}(x:α)(a b c:List α):(x::(a++(b++c))).Perm (a++((b++[x])++c)):=by
 have h:=(S0 (a:=x) (l₁:=a++b) (l₂:=c)).symm;simpa using h
section
variable {α:Type}{K:uX α}
def Qy(M:List (List α))(i j:Nat)(x:α):List (List α):=match M[i]? with
 | some row=>M.set i (row.set j x)
 | none=>M
def Jo(M:List (List α))(i j:Nat):Option α:=match M[i]? with
 | some row=>row[j]?
 | none=>none
structure nA(n m:Nat)(M:List (List α)):Prop where
 size:M.length=n
 row:∀r∈M,r.length=m
end
end Go.Abs
namespace Go.Abs
theorem uc{α:Type}(z y:α)(S bs X own:List α)(h:bs.Perm (y::X)):(z::((S++bs)++own)).Perm (y::((S++X)++(z::own))):=by
 have h1:((S++bs)++own).Perm (y::((S++X)++own)):=by
  have h2:(S++bs).Perm (y::(S++X)):=(h.append_left S).trans S0;simpa using h2.append_right own
 have h3:(z::((S++X)++own)).Perm ((S++X)++(z::own)):=S0.symm;exact(h1.cons z).trans ((List.Perm.swap y z _).trans (h3.cons y))
theorem nA.setRow{α:Type}{n m:Nat}{M:List (List α)}(h:nA n m M)(i:Nat){row:List α}(hr:row.length=m):nA n m (M.set i row):=by
 refine⟨by simp[h.size],λr hm=>?_⟩;rcases SN hm with hm | rfl
 ·exact h.row r hm
 ·exact hr
end Go.Abs
/-
 Maps of one's own;elements that are written whole;trees;calls that hand a slot over and freeze.
-/
set_option linter.unusedVariables false
namespace Go.Abs
open Go
def mw(T:RT)(ok:TypeId->Value->Bool):List (Nat×Nat)->List Value->Bool
 | [],_=>true
 | (off,ft)::fs,cs=>(match rI T cs ft off with
  | some a=>ok ft a
  | none=>false)&&mw T ok fs cs
def Mw(T:RT):Nat->TypeId->Value->Bool
 | 0,_,_=>false
 | n+1,t,v=>
  match rowOf T t with
  | some r=>match r.d,v with
   | .struct fs,.agg ⟨cs⟩=>mw T (Mw T n) fs cs
   | .int _,v=>!cA v
   | .bool,v=>!cA v
   | .string,v=>!cA v
   | _,_=>false
  | none=>false
section
variable {C:Ctx}{T:RT}(hT:aO C T=true)
include hT
theorem pq{ok1 ok2:TypeId->Value->Bool}(he:∀t v,ok1 t v=true->ok2 t v=true):∀(fs:List Field) (cs:List Value),mw T ok1 (fs.map λf=>(f.offset,f.type)) cs=true->jT C ok2 fs cs=true
 | [],_,_=>rfl
 | f::fs,cs,q=>by
  simp only[Na,mw,IN] at q;obtain⟨q1,q2⟩:=q;unfold jT;rw[pq he fs cs q2,Ue];split at q1
  ·rename_i a ha;rw[cl hT ha];exact he _ _ q1
  ·cases q1
theorem uD:∀(n:Nat) (t:TypeId) (v:Value),Mw T n t v=true->eW C n t v=true
 | 0,_,_,q=>by cases q
 | n+1,t,v,q=>by
  unfold Mw at q;split at q
  ·rename_i r hr;split at q
   ·rename_i fs cs hd;obtain⟨fs',hu,hfs⟩:=iO hT hr hd;unfold eW;simp only[hu];rw[hfs] at q;exact pq hT (uD n) _ _ q
   ·rename_i k hd;unfold eW;rw[Am hT hr hd];simpa [vF] using q
   ·rename_i hd;unfold eW;rw[rA hT hr hd];simpa [vF] using q
   ·rename_i hd;unfold eW;rw[j7 hT hr hd];simpa [vF] using q
   ·cases q
  ·cases q
theorem dP{t k e:Nat}{r:Row}(q:rowOf T t=some r)(hd:r.d=.map k e):C.gQ t=some (.map k e):=by
 obtain⟨_,_,_,_,d,h4,h5⟩:=dz hT q;rw[hd] at h5;cases d<;>first | (cases h5;done) | skip
 simp only[mN,IN] at h5;rw[h4,RF h5.1,RF h5.2]
end
structure om(C:Ctx)(t:TypeId)(κ:Type) where
 key:κ->Value
 ok:∀k,eW C 8 t (key k)=true
 eq:∀a b,(a=b/\tK C 8 t (key a) (key b)=some true)\/(a≠b/\tK C 8 t (key a) (key b)=some false)
abbrev cQ(κ:Type):=List (κ×Value)
def aK{C:Ctx}{t:TypeId}{κ:Type}(K:om C t κ)(m:cQ κ):List (Value×Value):=m.map λp=>(K.key p.1,p.2)
def look{κ:Type}[DecidableEq κ]:cQ κ->κ->Option Value
 | [],_=>none
 | (k,v)::m,k2=>if k2=k then some v else look m k2
def dX{κ:Type}[DecidableEq κ]:cQ κ->κ->Value->cQ κ
 | [],k,v=>[(k,v)]
 | (k',v')::m,k,v=>if k=k' then (k',v)::m else (k',v')::dX m k v
theorem jM{κ:Type}[DecidableEq κ](k k2:κ)(v:Value):∀m:cQ κ,look (dX m k v) k2=if k2=k then some v else look m k2
 | []=>by simp only[dX,look]
 | (k',v')::m=>by
  simp only[dX];by_cases h:k=k'
  ·subst h;simp only[Sv,look];by_cases h2:k2=k<;>simp[h2]
  ·simp only[h,SL,look,jM k k2 v m];by_cases h2:k2=k'
   ·subst h2;have:¬k2=k:=λe=>h e.symm;simp[this]
   ·simp[h2]
section
variable {C:Ctx}{T:RT}{t:TypeId}{κ:Type}[DecidableEq κ](K:om C t κ)
theorem iH(k:κ):∀(m:cQ κ) (i:Nat),(look m k=none/\gg C t (K.key k) (aK K m) i=some none)\/
  ∃j v,look m k=some v/\gg C t (K.key k) (aK K m) i=some (some (i+j,v))/\(aK K m)[j]?=some (K.key k,v)/\∀v',(aK K m).set j (K.key k,v')=aK K (dX m k v')
 | [],i=>.inl ⟨rfl,rfl⟩
 | (k',v')::m,i=>by
  rcases K.eq k k' with ⟨rfl,h⟩ | ⟨hne,h⟩
  ·refine .inr ⟨0,v',by simp[look],?_,rfl,λw=>by simp[aK,dX]⟩;simp only[aK,Na,gg,h];rfl
  ·rcases iH k m (i+1) with ⟨h1,h2⟩ | ⟨j,v,h1,h2,h3,h4⟩
   ·refine .inl ⟨by simp only[look];rw[By hne];exact h1,?_⟩;simp only[aK,Na,gg,h];exact h2
   ·refine .inr ⟨j+1,v,by simp only[look];rw[By hne];exact h1,?_,h3,λw=>?_⟩
    ·simp only[aK,Na,gg,h];rw[show i+(j+1)=i+1+j by omega];exact h2
    ·have:=h4 w;simp only[aK] at this;simp only[aK,Na,TN,dX,By hne,this]
theorem lv(k:κ)(v:Value):∀m:cQ κ,look m k=none->aK K (dX m k v)=aK K m++[(K.key k,v)]
 | [],_=>rfl
 | (k',v')::m,h=>by
  simp only[look] at h;split at h
  ·cases h
  ·rename_i hne;have:=lv k v m h;simp only[aK] at this;simp only[dX,By hne,aK,Na,this];rfl
omit [DecidableEq κ] in
theorem iK(k:κ):cA (K.key k)=false:=mB (K.ok k)
omit [DecidableEq κ] in
theorem cO:∀m:cQ κ,alive (aK K m)=aK K m
 | []=>rfl
 | (k,v)::m=>by
  have:=cO m;simp only[aK] at this;simp only[aK,Na,alive,iK K k,Ri,this]
omit [DecidableEq κ] in
theorem jd(x:Value×Value):∀(m:cQ κ) (j:Nat),aS x (aK K m) j=(aK K m).set j x
 | [],j=>by simp[aK,aS]
 | (k,v)::m,0=>by simp only[aK,Na,aS,iK K k,Ri,Tq]
 | (k,v)::m,j+1=>by
  have:=jd x m j;simp only[aK] at this;simp only[aK,Na,aS,iK K k,Ri,TN,this]
variable {n:Nat}{k:bu}{F:ar}{own:a6}{ops rest:List Oper}{o:Oper}{Q:bu->ar->a6->List Rec->Prop}
theorem WT.makeMap{tm:TypeId}{d:Nat}(hop:o.op=.makeMap tm none)(hw:aE ops k o=some true)(hdst:o.dst=some d)(hn:Nat.blt d n=true)
  (h:∀i,F i=none->WT C n ops rest ((d,.map (some i))::k) F ([(i,.map [])]::own) (λk2 F2 own2 rs=>Q k2 F2 own2 (⟨F,own,F,[(i,.map [])]::own,[]⟩::rs))):WT C n ops (o::rest) k F own Q:=by
 refine WT.new (mk:=λi=>.map (some i)) (l:=[]) hw (by rw[hop];rfl) (λh0 _=>?_) (λi hi=>by rw[hdst,ay hn];exact h i hi);rw[hop];rfl
theorem WT.Li(hT:aO C T=true)(p:Nat){tm et:TypeId}{mo ko:Operand}{i:Nat}{m:cQ κ}{key:κ}{r:Row}{z:Value}{B:List (Nat×aD)}{d:Nat}(hop:o.op=.lookup tm mo ko true)(hw:aE ops k o=some true)(hdst:o.dst=some d)(hn:Nat.blt d n=true)
  (hm:aU C k mo=some (.map (some i))) (hk:aU C k ko=some (K.key key)) (hp:own[p]?=some B) (hq:(i,aD.map (aK K m))∈B) (hr:rowOf T tm=some r) (hd:r.d=.map t et) (hz:jB T et=some z)
  (h1:∀v,look m key=some v->WT C n ops rest ((d,.tuple ⟨[v,.bool true]⟩)::k) F own (λk2 F2 own2 rs=>Q k2 F2 own2 (⟨F,own,F,own,[i]⟩::rs)))
  (h2:look m key=none->WT C n ops rest ((d,.tuple ⟨[z,.bool false]⟩)::k) F own (λk2 F2 own2 rs=>Q k2 F2 own2 (⟨F,own,F,own,[i]⟩::rs))):WT C n ops (o::rest) k F own Q:=by
 have hl:aY (aU C k) o.op=some [i]:=by rw[hop];simp only[aY,hm]
 rcases iH K key m 0 with ⟨h3,h4⟩ | ⟨j,v,h3,h4,_,_⟩
 ·refine WT.still hw hl (λh0 s0=>?_) (by rw[hdst,ay hn];exact h2 h3);have hb:=s0.has hp hq;rw[hop];simp only[aN,hm,hk,iY,dP hT hr hd,ik,hb,cO K m,K.ok,h4,ej hT hz];rfl
 ·refine WT.still hw hl (λh0 s0=>?_) (by rw[hdst,ay hn];exact h1 v h3);have hb:=s0.has hp hq;rw[hop];simp only[aN,hm,hk,iY,dP hT hr hd,ik,hb,cO K m,K.ok,h4];rfl
theorem WT.oP(hT:aO C T=true)(p:Nat){tm et:TypeId}{mo ko:Operand}{i:Nat}{m:cQ κ}{key:κ}{r:Row}{z:Value}{B:List (Nat×aD)}{d:Nat}(hop:o.op=.lookup tm mo ko false)(hw:aE ops k o=some true)(hdst:o.dst=some d)(hn:Nat.blt d n=true)
  (hm:aU C k mo=some (.map (some i))) (hk:aU C k ko=some (K.key key)) (hp:own[p]?=some B) (hq:(i,aD.map (aK K m))∈B) (hr:rowOf T tm=some r) (hd:r.d=.map t et) (hz:jB T et=some z)
  (h1:WT C n ops rest ((d,(look m key).getD z)::k) F own (λk2 F2 own2 rs=>Q k2 F2 own2 (⟨F,own,F,own,[i]⟩::rs))):WT C n ops (o::rest) k F own Q:=by
 have hl:aY (aU C k) o.op=some [i]:=by rw[hop];simp only[aY,hm]
 refine WT.still hw hl (λh0 s0=>?_) (by rw[hdst,ay hn];exact h1);have hb:=s0.has hp hq;rw[hop];rcases iH K key m 0 with ⟨h3,h4⟩ | ⟨j,v,h3,h4,_,_⟩
 ·simp only[aN,hm,hk,iY,dP hT hr hd,ik,hb,cO K m,K.ok,h4,ej hT hz,h3];rfl
 ·simp only[aN,hm,hk,iY,dP hT hr hd,ik,hb,cO K m,K.ok,h4,h3];rfl
theorem WT.sO(hT:aO C T=true)(p q:Nat){tm et:TypeId}{mo ko vo:Operand}{i:Nat}{m:cQ κ}{key:κ}{v:Value}{r:Row}{B B':List (Nat×aD)}{az:a6}(hop:o.op=.mapUpdate tm mo ko vo)(hw:aE ops k o=some true)(hdst:o.dst=none)
  (hm:aU C k mo=some (.map (some i))) (hk:aU C k ko=some (K.key key)) (hv:aU C k vo=some v) (hp:own[p]?=some B) (hq:B[q]?=some (i,aD.map (aK K m))) (hr:rowOf T tm=some r) (hd:r.d=.map t et)
  (hB:ur B q (i,.map (aK K (dX m key v)))=some B') (ho:mX own p B'=some az)
  (h:WT C n ops rest k F az (λk2 F2 own2 rs=>Q k2 F2 own2 (⟨F,own,F,az,[]⟩::rs))):WT C n ops (o::rest) k F own Q:=by
 have e1:=oW _ _ _ _ hB;have e2:=dY _ _ _ _ ho;subst e1;subst e2;refine WT.put (v:=dq) (b':=.map (aK K (dX m key v))) p q hp hq hw (by rw[hop];rfl) (λh0 s0 hb=>?_) (by rw[hdst];exact h);rw[hop];rcases iH K key m 0 with ⟨h3,h4⟩ | ⟨j,v2,h3,h4,h5,h6⟩
 ·simp only[aN,hm,hk,hv,cH,dP hT hr hd,hb,cO K m,K.ok,h4,lv K key v m h3];rfl
 ·simp only[aN,hm,hk,hv,cH,dP hT hr hd,hb,cO K m,jd K,K.ok,h4,Rn,h5,fw,<-h6 v];rfl
end
section
variable {C:Ctx}{T:RT}{n:Nat}{k:bu}{F:ar}{own:a6}{ops rest:List Oper}{o:Oper}{Q:bu->ar->a6->List Rec->Prop}{α:Type}{R:Ty α}
theorem WT.bW(p:Nat){f:FuncId}{fn:Func}{as_:Array Operand}{ts:Array TypeId}{args:List Value}{B:List (Nat×aD)}{up:List (Nat×aD)->a6}{P:ar->Value->List (Nat×aD)->Prop}(hf:C.func f=some fn)(hb:fn.body.isSome=true)(hop:o.op=.call ⟨.value (.func f),as_,ts⟩)
  (hw:aE ops k o=some true) {dst:Nat} (hdst:o.dst=some dst) (hn:Nat.blt dst n=true) (hv:dx (aU C k) as_.toList=some args) (hp:own[p]?=some B) (hupd:∀B',mX own p B'=some (up B'))
  (spec:Spec C f args F [B] λF' v o=>∃B',o=[B']/\P F' v B')
  (h:∀F' v B',ar.le F F'->P F' v B'->WT C n ops rest ((dst,v)::k) F' (up B') (λk2 F2 own2 rs=>Q k2 F2 own2 (⟨F,own,F',up B',[]⟩::rs))) :
  WT C n ops (o::rest) k F own Q:=by
 refine WT.step (l:=[]) (by rw[hop];rfl) λe h' hk hs=>?_;obtain⟨v,h1,F1,oout,⟨m,hd⟩,hF,hs1,B',rfl,hp'⟩:=spec (own.eraseIdx p) h' (hs.perm (bX hp));have e1:=dY _ _ _ _ (hupd B');refine⟨v,h1,F1,up B',⟨m,λN hN=>?_⟩,hF,?_,by rw[hdst,ay hn];exact h F1 v B' hF hp'⟩
 ·unfold ek;rw[eN hk hw];have:aN C (aU C k) h' o.op=some (.call f args):=by
   rw[hop];simp only[aN,aU,hv,lu,hf,hb,OF];simp
  simp only[ef hk.eval this,hd N hN]
 ·rw[<-e1];exact hs1.perm (gr B' hp).symm
end
end Go.Abs
/-
 Vectors: slices of one's own that keep their length,whose elements are read and written.
-/
set_option linter.unusedVariables false
namespace Go.Abs
open Go
structure dC{α:Type}(R:Ty α)(F:ar)(a:Option Addr)(n c:Nat)(B:List (Nat×aD))(xs:List α):Prop where
 len:n=xs.length
 cap:c=0\/c=R.size
 zero:c=0->n=0
 nil:a=none->n=0/\c=0
 spot:∀p,a=some p->p.spot=none
 el:xs=[]\/∃i cs,a=some ⟨i,0,none⟩/\B=[(i,.cells false cs)]/\aF R F cs xs/\0<R.size
section
variable {α:Type}{R:Ty α}{F G:ar}{a:Option Addr}{n c:Nat}{B:List (Nat×aD)}{xs:List α}
theorem dC.mono(h:dC R F a n c B xs)(hF:ar.le F G):dC R G a n c B xs:=
 ⟨h.len,h.cap,h.zero,h.nil,h.spot,h.el.imp id λ⟨i,cs,h1,h2,h3,h4⟩=>⟨i,cs,h1,h2,h3.mono hF,h4⟩⟩
theorem dy.vec(h:dy R F a n c B xs):dC R F a n c B xs:=by
 have hl:=h.len;rcases h.at_ with ⟨rfl,rfl,rfl,rfl⟩ | ⟨i,cs,rfl,rfl,rfl,h4,h5⟩
 ·exact⟨hl,.inl rfl,λ_=>hl,λ_=>⟨hl,rfl⟩,λp hp=>(by cases hp),.inl rfl⟩
 ·exact⟨hl,.inr rfl,λh=>(by omega),λh=>(by cases h),λp hp=>(by cases hp;rfl),.inr ⟨i,cs,rfl,rfl,h4,h5⟩⟩
theorem dC.arr(h:dC R F a n c B xs)(hG:ar.le F G)(hB:∀i b,(i,b)∈B->G i=some b):bw R G a n c xs:=by
 refine⟨h.len,h.cap,h.zero,h.nil,h.spot,λj x hj=>?_⟩;rcases h.el with rfl | ⟨i,cs,rfl,rfl,h4,h5⟩
 ·simp at hj
 ·obtain⟨l,h6,h7⟩:=(h4.mono hG).at j x hj;exact⟨i,0,false,cs,l,rfl,hB i _ (Rl ..),by rw[Rn];exact h6,h7⟩
theorem dC.at_(h:dC R F a n c B xs){j:Nat}{x:α}(hj:xs[j]?=some x):∃i cs,a=some ⟨i,0,none⟩/\B=[(i,.cells false cs)]/\aF R F cs xs/\0<R.size:=by
 rcases h.el with rfl | h
 ·simp at hj
 ·exact h
theorem dC.Qa(h:dC R F a n c B xs)(hne:xs≠[]):dy R F a n c B xs:=by
 rcases h.el with h0 | ⟨i,cs,h1,h2,h3,h4⟩
 ·exact absurd h0 hne
 ·refine⟨h.len,.inr ⟨i,cs,h1,?_,h2,h3,h4⟩⟩;rcases h.cap with h5 | h5
  ·have:=h.zero h5;rw[h.len] at this;exact absurd (R8 this) hne
  ·exact h5
theorem aF.set{x y:α}{l:List Value}(hl:R.rel F l y):∀{xs:List α} {cs:List Value} {j:Nat},aF R F cs xs->xs[j]?=some x->aF R F (aV cs (j*R.size) l) (xs.set j y)
 | [],cs,j,h,hj=>by simp at hj
 | z::xs,cs,0,h,hj=>by
  cases h with
  | cons h1 h2=>
   rename_i l1 cs1;have e:aV (l1++cs1) (0*R.size) l=l++cs1:=by
    unfold aV;rw[Ua,TV,SG,Rn,R.len _ _ _ hl,<-R.len _ _ _ h1,List.drop_left]
   rw[e];exact .cons hl h2
 | z::xs,cs,j+1,h,hj=>by
  cases h with
  | cons h1 h2=>
   rename_i l1 cs1;have ih:=aF.set hl (j:=j) h2 (by simpa using hj);have e:aV (l1++cs1) ((j+1)*R.size) l=l1++aV cs1 (j*R.size) l:=by
    have hl1:=R.len _ _ _ h1;unfold aV;rw[show (j+1)*R.size=l1.length+j*R.size by rw[hl1,R3];omega]
    rw[List.take_append,No (show l1.length<=l1.length+j*R.size by omega),show l1.length+j*R.size-l1.length=j*R.size by omega,
     show l1.length+j*R.size+l.length=l1.length+(j*R.size+l.length) by omega,List.drop_append,Su (show l1.length<=l1.length+(j*R.size+l.length) by omega),
     show l1.length+(j*R.size+l.length)-l1.length=j*R.size+l.length by omega]
    simp
   rw[e];exact .cons h1 ih
theorem dC.set(h:dC R F a n c B xs){i:Nat}{cs:List Value}{j:Nat}{x y:α}{l:List Value}(hB:B=[(i,.cells false cs)])(hj:xs[j]?=some x)(hl:R.rel F l y) :
  dC R F a n c [(i,.cells false (aV cs (j*R.size) l))] (xs.set j y):=by
 obtain⟨i',cs',h1,h2,h3,h4⟩:=h.at_ hj;rw[hB] at h2;injection h2 with h2 _;injection h2 with h2 h5;injection h5 with _ h5;subst h2;subst h5;exact⟨by rw[h.len];simp,h.cap,h.zero,h.nil,h.spot,.inr ⟨i,_,h1,rfl,h3.set hl hj,h4⟩⟩
theorem th{C:Ctx}{T:RT}(hT:aO C T=true){t off m:Nat}{r:Row}{cs l:List Value}(hr:rowOf T t=some r)(hd:r.d.agg=true)(hm:r.size=m)(hp:bF cs off m=some l):eI C cs t off=some (.agg ⟨l⟩):=by
 obtain⟨_,h1,_,_,d,h4,h5⟩:=dz hT hr;unfold eI;rw[h4];simp only[sR h5,hd,OF,h1,hm,hp];rfl
theorem sy{cs l:List Value}{off:Nat}{v:Value}(hp:bF cs off 1=some l)(hl:l=[v]):cs[off]?=some v:=by
 subst hl;unfold bF at hp;cases e:(((cs.drop off).take 1).length==1) with
 | false=>simp only[e,Ri] at hp;cases hp
 | true=>
  simp only[e,OF] at hp;have h:=AT hp;have:(cs.drop off)[0]?=some v:=by
   cases h2:cs.drop off with
   | nil=>rw[h2] at h;simp at h
   | cons x xs=>rw[h2] at h;simp at h;simp[h]
  simpa using this
end
section
variable {C:Ctx}{T:RT}{n:Nat}{k:bu}{F:ar}{own:a6}{ops rest:List Oper}{o:Oper}{Q:bu->ar->a6->List Rec->Prop}{α:Type}{R:Ty α}
theorem WT.be(hT:aO C T=true){t e:Nat}{r:Row}{xo io:Operand}{a:Option Addr}{m c:Nat}{B:List (Nat×aD)}{xs:List α}{kd:IntKind}{j:Nat}(hv:dC R F a m c B xs)(hop:o.op=.indexAddr t xo io)(hw:aE ops k o=some true){dst:Nat}(hdst:o.dst=some dst)(hn:Nat.blt dst n=true)
  (hx:aU C k xo=some (.slice a m c)) (hi:aU C k io=some (.int kd (j:Nat))) (hr:rowOf T t=some r) (hd:r.d=.slice e) (hs:eY T e=some R.size) (hj:j<m)
  (h:∀b,a=some ⟨b,0,none⟩->WT C n ops rest ((dst,.pointer (some ⟨b,j*R.size,none⟩))::k) F own (λk2 F2 own2 rs=>Q k2 F2 own2 (⟨F,own,F,own,[]⟩::rs))):WT C n ops (o::rest) k F own Q:=by
 have hl:=hv.len;obtain⟨x,hx2⟩:∃x,xs[j]?=some x:=⟨_,RL (by omega)⟩;obtain⟨i,cs,rfl,rfl,h3,h4⟩:=hv.at_ hx2;refine WT.dL hT hop hw hdst hn hx hi hr hd hs hj ?_;rw[Rn];exact h i rfl
theorem WT.cz(hT:aO C T=true)(p:Nat){t:TypeId}{ao:Operand}{a:Option Addr}{m c j b:Nat}{B:List (Nat×aD)}{xs:List α}{x:α}{r:Row}(hv:dC R F a m c B xs)(ha:a=some ⟨b,0,none⟩)(hj:xs[j]?=some x)(hop:o.op=.load t ao)(hw:aE ops k o=some true){dst:Nat}(hdst:o.dst=some dst)(hn:Nat.blt dst n=true)
  (hao:aU C k ao=some (.pointer (some ⟨b,j*R.size,none⟩))) (hp:own[p]?=some B) (hr:rowOf T t=some r) (hd:r.d.agg=true) (hs:r.size=R.size)
  (h:∀l,R.rel F l x->WT C n ops rest ((dst,.agg ⟨l⟩)::k) F own (λk2 F2 own2 rs=>Q k2 F2 own2 (⟨F,own,F,own,[b]⟩::rs))):WT C n ops (o::rest) k F own Q:=by
 obtain⟨i,cs,h1,rfl,h3,h4⟩:=hv.at_ hj;rw[ha] at h1;injection h1 with h1;injection h1 with h1;subst h1;obtain⟨l,h5,h6⟩:=h3.at j x hj;exact WT.mD p hop hw hao hp (Rl ..) (th hT hr hd hs h5) (by rw[hdst,ay hn];exact h l h6)
theorem WT.C8(hT:aO C T=true)(p:Nat){t:TypeId}{ao:Operand}{a:Option Addr}{m c j b:Nat}{B:List (Nat×aD)}{xs:List α}{x:α}{r:Row}{v:Value}(hv:dC R F a m c B xs)(ha:a=some ⟨b,0,none⟩)(hj:xs[j]?=some x)(hop:o.op=.load t ao)(hw:aE ops k o=some true){dst:Nat}(hdst:o.dst=some dst)(hn:Nat.blt dst n=true)
  (hao:aU C k ao=some (.pointer (some ⟨b,j*R.size,none⟩))) (hp:own[p]?=some B) (hr:rowOf T t=some r) (hd:r.d.agg=false) (hs:R.size=1) (hval:∀l,R.rel F l x->l=[v])
  (h:WT C n ops rest ((dst,v)::k) F own (λk2 F2 own2 rs=>Q k2 F2 own2 (⟨F,own,F,own,[b]⟩::rs))):WT C n ops (o::rest) k F own Q:=by
 obtain⟨i,cs,h1,rfl,h3,h4⟩:=hv.at_ hj;rw[ha] at h1;injection h1 with h1;injection h1 with h1;subst h1;obtain⟨l,h5,h6⟩:=h3.at j x hj;rw[show R.size=1 from hs] at hao h5;exact WT.mD p hop hw hao hp (Rl ..) (n9 hT hr hd (sy h5 (hval l h6))) (by rw[hdst,ay hn];exact h)
theorem WT.oY(hT:aO C T=true)(p:Nat){t:TypeId}{ao x:Operand}{a:Option Addr}{m c j b:Nat}{B:List (Nat×aD)}{dh:List (Nat×aD)->a6}{xs:List α}{z y:α}{v:Value}(hv:dC R F a m c B xs)(ha:a=some ⟨b,0,none⟩)(hj:xs[j]?=some z)(hop:o.op=.store t ao x)(hw:aE ops k o=some true)(hd:o.dst=none)
  (hao:aU C k ao=some (.pointer (some ⟨b,j*R.size,none⟩))) (hx:aU C k x=some v) (hy:R.rel F v.cells.toList y) (hp:own[p]?=some B) (hupd:∀B',mX own p B'=some (dh B')) (hm:eY T t=some R.size)
  (h:∀B',dC R F a m c B' (xs.set j y)->WT C n ops rest k F (dh B') (λk2 F2 own2 rs=>Q k2 F2 own2 (⟨F,own,F,dh B',[b]⟩::rs))) :
  WT C n ops (o::rest) k F own Q:=by
 obtain⟨i,cs,h1,h2,h3,h4⟩:=hv.at_ hj;have h1':=h1;rw[ha] at h1';injection h1' with h1';injection h1' with h1';subst h1';have hset:=hv.set h2 hj hy;subst h2;have hlt:=(RH.1 hj).1;have hcl:=h3.len;have hmul:j*R.size+R.size<=cs.length:=by
  rw[hcl,<-Nat.succ_mul];exact Rb _ hlt
 refine WT.store (C:=C) (n:=n) (k:=k) (F:=F) (Q:=Q) (rest:=rest) (ops:=ops) p 0 hop hw hao hx hp rfl (cq hT hm) (R.len _ _ _ hy) (R.one _ _ _ hy) hmul ?_;rw[hd];have e:=dY _ _ _ _ (hupd [(b,.cells false (aV cs (j*R.size) v.cells.toList))]);simp only[Tq];rw[e];exact h _ hset
end
end Go.Abs
/-
 Slices compared with nil,appended to an empty literal,copied into own blocks;numbers of 64 bits without sign.
-/
set_option linter.unusedVariables false
namespace Go.Abs
open Go
section
variable {C:Ctx}{T:RT}{n:Nat}{k:bu}{F:ar}{own:a6}{ops rest:List Oper}{o:Oper}{Q:bu->ar->a6->List Rec->Prop}{α:Type}{R:Ty α}
theorem WT.rz(hT:aO C T=true){t ty:TypeId}{xo yo:Operand}{a:Option Addr}{m c e:Nat}{r:Row}(hop:o.op=.binOp .eql t xo yo ty)(hw:aE ops k o=some true){dst:Nat}(hdst:o.dst=some dst)(hn:Nat.blt dst n=true)
  (hx:aU C k xo=some (.slice a m c)) (hy:aU C k yo=some (.slice none 0 0)) (hr:rowOf T t=some r) (hd:r.d=.slice e)
  (h:WT C n ops rest ((dst,.bool a.isNone)::k) F own (λk2 F2 own2 rs=>Q k2 F2 own2 (⟨F,own,F,own,[]⟩::rs))):WT C n ops (o::rest) k F own Q:=by
 refine WT.still hw (by rw[hop];simp only[aY,hx,hy];rfl) (λh0 _=>?_) (by rw[hdst,ay hn];exact h);rw[hop];have hu:=bO hT hr hd;cases a<;>simp only[aN,hx,hy,kQ,js,OF,equalA,hu]<;>rfl
theorem WT.Kn(hT:aO C T=true){p0:Addr}{d by_:Nat}{ys:List α}{ds:List Value}{t e:Nat}{ts:List TypeId}{r:Row}{z x:Value}{xo so:Operand}
  (hsp:p0.spot=none) (hop:o.op=.call ⟨.builtin .append,⟨[so,xo]⟩,⟨t::ts⟩⟩) (hw:aE ops k o=some true) {dst:Nat} (hdst:o.dst=some dst) (hn:Nat.blt dst n=true)
  (hs:aU C k so=some (.slice (some p0) 0 0)) (hx:aU C k xo=some x) (hr:rowOf T t=some r) (hd:r.d=.slice e) (hsz:eY T e=some R.size) (hz:jB T e=some z) (hby:pC T e=some by_)
  (hnew:∀h,St F own h->kG C h e R.size ts.head? x=some (d,ds)) (hds:aF R F ds ys) (hlen:d=ys.length) (hpos:0<R.size/\0<by_) (hroom:d*by_<=140737488355328)
  (h:∀a' c' B',dC R F a' d c' B' ys->(ys=[]->a'=some p0)->WT C n ops rest ((dst,(.slice a' d c'))::k) F (B'::own) (λk2 F2 own2 rs=>Q k2 F2 own2 (⟨F,own,F,B'::own,[]⟩::rs))) :
  WT C n ops (o::rest) k F own Q:=by
 obtain⟨b0,off0,sp0⟩:=p0;have:sp0=none:=hsp;subst this;have hl:aY (aU C k) o.op=some []:=by rw[hop];rfl
 have hv:dx (aU C k) [so,xo]=some [.slice (some ⟨b0,off0,none⟩) 0 0,x]:=by simp[dx,hs,hx]
 have hcond:(!(ds.length==d*R.size&&ds.all one&&Nat.blt 0 R.size&&Nat.blt 0 by_&&Nat.ble ((0+d)*by_) 140737488355328))=false:=by
  have h1:(ds.length==d*R.size)=true:=by rw[hds.len,hlen];simp
  have h2:Nat.blt 0 R.size=true:=RP hpos.1;have h3:Nat.blt 0 by_=true:=RP hpos.2;have h4:Nat.ble ((0+d)*by_) 140737488355328=true:=RP (by rw[Rn];exact hroom);rw[h1,h2,h3,h4,hds.one];rfl
 by_cases hd0:d=0
 ·subst hd0;have hy0:ys=[]:=R8 hlen.symm;subst hy0
  refine WT.step (l:=[]) hl λe0 h0 hk hs0=>⟨.slice (some ⟨b0,off0,none⟩) 0 0,h0,F,[]::own,⟨0,λN _=>?_⟩,ar.le.refl F,hs0.le (ah.flat (Rc _)),by
   rw[hdst,ay hn];exact h _ _ [] ⟨rfl,.inl rfl,λ_=>rfl,λh=>(by cases h),λp hp=>(by cases hp;rfl),.inl rfl⟩ (λ_=>rfl)⟩
  refine gp hk hw ?_ _;rw[hop];simp only[aN,hv,bR,ja,bO hT hr hd,cq hT hsz,ej hT hz,jQ hT hby,hnew h0 hs0,hcond,Ri];simp
 ·have hd1:(d==0)=false:=by simpa using hd0
  refine WT.new (mk:=λi=>.slice (some ⟨i,0,none⟩) d R.size) (b:=.cells false ds) hw hl (λh0 s0=>?_) (λi hi=>?_)
  ·rw[hop];simp only[aN,hv,bR,ja,bO hT hr hd,cq hT hsz,ej hT hz,jQ hT hby,hnew h0 s0,hcond,hd1,Ri];simp
  ·rw[hdst,ay hn];refine h _ _ _ ⟨hlen,.inr rfl,λh=>?_,λh=>(by cases h),λp hp=>(by cases hp;rfl),.inr ⟨i,ds,rfl,rfl,hds,hpos.1⟩⟩ (λh=>?_)
   ·have:=hpos.1;omega
   ·subst h;simp at hlen;omega
theorem GJ{F:ar}{a:Option Addr}{n c:Nat}{xs:List α}(hx:bw R F a n c xs)(hn:0<n) :
  ∃b off ro cs ds,a=some ⟨b,off,none⟩/\F b=some (.cells ro cs)/\bF cs off (n*R.size)=some ds/\aF R F ds xs:=by
 have partOk:∀{cs:List Value} {off n:Nat} {l:List Value},bF cs off n=some l->l=(cs.drop off).take n/\l.length=n:=by
  intro cs off n l h;unfold bF at h;cases e:(((cs.drop off).take n).length==n) with
  | false=>simp only[e,Ri] at h;cases h
  | true=>
   simp only[e,OF] at h;obtain rfl:=AT h;exact⟨rfl,eq_of_beq e⟩
 have partApp:∀{cs:List Value} {off n m:Nat} {l1 l2:List Value},bF cs off n=some l1->bF cs (off+n) m=some l2->bF cs off (n+m)=some (l1++l2):=by
  intro cs off n m l1 l2 h1 h2;obtain⟨e1,k1⟩:=partOk h1;obtain⟨e2,k2⟩:=partOk h2;have e:(cs.drop off).take (n+m)=l1++l2:=by rw[List.take_add,Td,<-e1,<-e2]
  unfold bF;simp only[e];have:((l1++l2).length==n+m)=true:=by simp[k1,k2]
  rw[this];rfl
 have hl:=hx.len;obtain⟨x0,h0⟩:∃x,xs[0]?=some x:=⟨_,RL (by omega)⟩;obtain⟨b,off,ro,cs,l,h1,h2,h3,h4⟩:=hx.el 0 x0 h0;have main:∀k,k<=xs.length->0<k->∃ds,bF cs off (k*R.size)=some ds/\aF R F ds (xs.take k):=by
  intro k
  induction k with
  | zero=>intro _ h;omega
  | succ k ih=>
   intro hk _;obtain⟨y,hy⟩:∃x,xs[k]?=some x:=⟨_,RL (by omega)⟩;obtain⟨b',off',ro',cs',l',g1,g2,g3,g4⟩:=hx.el k y hy;rw[h1] at g1;injection g1 with g1;injection g1 with g1 g1';subst g1;subst g1';rw[h2] at g2;injection g2 with g2;injection g2 with g2 g2';subst g2';have ht:xs.take (k+1)=xs.take k++[y]:=by rw[Rk,hy];rfl
   rw[ht];by_cases hk0:k=0
   ·subst hk0;exact⟨l',by simpa using g3,by simpa using aF.single g4⟩
   ·obtain⟨ds,d1,d2⟩:=ih (by omega) (by omega);exact⟨ds++l',by rw[R3,SW];exact partApp d1 g3,d2.append (aF.single g4)⟩
 obtain⟨ds,d1,d2⟩:=main n (by omega) hn;rw[hl,S1] at d2;exact⟨b,off,ro,cs,ds,h1,h2,d1,d2⟩
theorem rR(hT:aO C T=true){a:Option Addr}{m c t e':Nat}{r:Row}{xs:List α}(hx:bw R F a m c xs)(hr:rowOf T t=some r)(hd:r.d=.slice e')(e:TypeId) :
  ∃ds,(∀(own:a6) h,St F own h->kG C h e R.size (some t) (.slice a m c)=some (m,ds))/\aF R F ds xs:=by
 by_cases hm:m=0
 ·subst hm;have:xs=[]:=R8 hx.len.symm;subst this;refine⟨[],λown h s=>?_,.nil⟩;cases a with
  | none=>simp only[kG,bO hT hr hd,eD,gV,eU];rfl
  | some p=>
   obtain⟨b,off,sp⟩:=p;have:sp=none:=hx.spot _ rfl;subst this;simp only[kG,bO hT hr hd,eD,gV,eU];rfl
 ·obtain⟨b,off,ro,cs,ds,rfl,h2,h3,h4⟩:=GJ hx (by omega);refine⟨ds,λown h s=>?_,h4⟩;have hb:=s.xQ _ _ h2;simp only[kG,bO hT hr hd,eD,gV,eU,iv,hb,h3,show (m==0)=false by simpa using hm];rfl
end
end Go.Abs
/-
 Numbers of 64 bits without sign;copies into own blocks.
-/
set_option linter.unusedVariables false
namespace Go.Abs
open Go
theorem jD{x:Int}(h:0<=x/\x<18446744073709551616):IntKind.u64.wrap x=x:=by
 unfold IntKind.wrap;have hs:IntKind.u64.signed=false:=rfl;have hb:IntKind.u64.bits=64:=rfl;have:(2:Int) ^ 64=18446744073709551616:=rfl;simp only[hs,hb,Ub,this];exact T8 h.1 h.2
theorem ua(x:Nat):IntKind.u64.wrap (x:Int)=((x % 18446744073709551616:Nat):Int):=by
 unfold IntKind.wrap;have hs:IntKind.u64.signed=false:=rfl;have hb:IntKind.u64.bits=64:=rfl;have:(2:Int) ^ 64=18446744073709551616:=rfl;simp only[hs,hb,Ub,this];simp
theorem JW{x:Nat}(h:x<18446744073709551616):(BitVec.ofInt 64 (x:Int)).toNat=x:=by
 rw[BitVec.toNat_ofInt];omega
section
variable {C:Ctx}{T:RT}{n:Nat}{k:bu}{F:ar}{own:a6}{ops rest:List Oper}{o:Oper}{Q:bu->ar->a6->List Rec->Prop}{α:Type}{R:Ty α}
theorem WT.lB{op:BinOp}{t ty:TypeId}{xo yo:Operand}{kd:IntKind}{x y:Int}{v:Value}(hop:o.op=.binOp op t xo yo ty)(hw:aE ops k o=some true){dst:Nat}(hdst:o.dst=some dst)(hn:Nat.blt dst n=true)(hx:aU C k xo=some (.int kd x))(hy:aU C k yo=some (.int kd y))
  (hsh:op≠.shl/\op≠.shr) (hr:b9 op kd x y=some v)
  (h:WT C n ops rest ((dst,v)::k) F own (λk2 F2 own2 rs=>Q k2 F2 own2 (⟨F,own,F,own,[]⟩::rs))):WT C n ops (o::rest) k F own Q:=by
 refine WT.bin hop hw hx hy ?_ hsh (by rw[hdst,ay hn];exact h);cases op<;>first | exact absurd rfl hsh.1 | exact absurd rfl hsh.2 | (simp only[kQ,Sv];exact hr)
theorem WT.It{op:BinOp}{t ty:TypeId}{xo yo:Operand}{kd kd2:IntKind}{x y:Int}{v:Value}(hop:o.op=.binOp op t xo yo ty)(hw:aE ops k o=some true){dst:Nat}(hdst:o.dst=some dst)(hn:Nat.blt dst n=true)(hx:aU C k xo=some (.int kd x))(hy:aU C k yo=some (.int kd2 y))
  (hsh:op=.shl\/op=.shr) (hr:iU op kd x y=some v)
  (h:WT C n ops rest ((dst,v)::k) F own (λk2 F2 own2 rs=>Q k2 F2 own2 (⟨F,own,F,own,[]⟩::rs))):WT C n ops (o::rest) k F own Q:=by
 have hput:∀v,((dst,v)::k:bu)=ck n k o.dst v:=λv=>by rw[hdst,ay hn]
 rw[hput] at h;refine WT.still (l:=[]) hw (by rw[hop];simp only[aY,hx,hy];rfl) (λh0 _=>?_) h;rw[hop];rcases hsh with rfl | rfl<;>simp only[aN,hx,hy,kQ,hr]<;>rfl
theorem LK{x y:Nat}(hx:x<18446744073709551616)(hy:y<18446744073709551616):b9 .and .u64 x y=some (.int .u64 ((x &&& y:Nat):Int)):=by
 have hb:IntKind.u64.bits=64:=rfl;have hlt:x &&& y<18446744073709551616:=Uj Nat.and_le_left hx;show some (Value.int .u64 (IntKind.u64.wrap ((BitVec.ofInt IntKind.u64.bits (x:Int) &&& BitVec.ofInt IntKind.u64.bits (y:Int)).toNat:Int)))=_;rw[hb,BitVec.toNat_and,JW hx,JW hy,jD (by omega)]
theorem HD{x y:Nat}(hx:x<18446744073709551616)(hy:y<18446744073709551616):b9 .xor .u64 x y=some (.int .u64 ((x ^^^ y:Nat):Int)):=by
 have hb:IntKind.u64.bits=64:=rfl;have hlt:x ^^^ y<2 ^ 64:=Nat.xor_lt_two_pow hx hy;have h2:(2:Nat) ^ 64=18446744073709551616:=rfl;rw[h2] at hlt;show some (Value.int .u64 (IntKind.u64.wrap ((BitVec.ofInt IntKind.u64.bits (x:Int) ^^^ BitVec.ofInt IntKind.u64.bits (y:Int)).toNat:Int)))=_;rw[hb,BitVec.toNat_xor,JW hx,JW hy,jD (by omega)]
theorem Hg(x y:Nat):b9 .mul .u64 x y=some (.int .u64 (((x*y) % 18446744073709551616:Nat):Int)):=by
 simp only[b9];rw[show (x:Int)*(y:Int)=((x*y:Nat):Int) by simp,ua]
theorem Nz{x y:Nat}(hx:x<18446744073709551616)(h:y<=x):b9 .sub .u64 x y=some (.int .u64 ((x-y:Nat):Int)):=by
 simp only[b9];rw[jD (by omega)];congr 2;omega
theorem EF{x y:Nat}(hy:y<=64):iU .shr .u64 x y=some (.int .u64 ((x / 2 ^ y:Nat):Int)):=by
 have hb:IntKind.u64.bits=64:=rfl;unfold iU;rw[By (by omega)];simp only[hb,Tz,Se hy];congr 2;rw[Int.natCast_ediv,Int.natCast_pow];exact Int.fdiv_eq_ediv_of_nonneg _ (Int.pow_nonneg (by decide))
theorem Iv{x y:Nat}(hy:y<=64):iU .shl .u64 x y=some (.int .u64 (((x*2 ^ y) % 18446744073709551616:Nat):Int)):=by
 have hb:IntKind.u64.bits=64:=rfl;unfold iU;rw[By (by omega)];simp only[hb,Tz,Se hy];rw[show (x:Int)*2 ^ y=((x*2 ^ y:Nat):Int) by simp,ua]
theorem WT.NC(hT:aO C T=true){t e:Nat}{ts:List TypeId}{r:Row}{do_ xo:Operand}{i off dl c m mc s:Nat}{a:Option Addr}(hop:o.op=.call ⟨.builtin .copy,⟨[do_,xo]⟩,⟨t::ts⟩⟩)(hw:aE ops k o=some true){dst:Nat}(hdst:o.dst=some dst)(hn:Nat.blt dst n=true)
  (hd:aU C k do_=some (.slice (some ⟨i,off,none⟩) dl c)) (hx:aU C k xo=some (.slice a m mc)) (hsp:∀p,a=some p->p.spot=none) (hr:rowOf T t=some r) (hde:r.d=.slice e) (hs:eY T e=some s) (hmin:Nat.min m dl=0)
  (h:WT C n ops rest ((dst,.int .i64 0)::k) F own (λk2 F2 own2 rs=>Q k2 F2 own2 (⟨F,own,F,own,[]⟩::rs))):WT C n ops (o::rest) k F own Q:=by
 have hl:aY (aU C k) o.op=some []:=by rw[hop];rfl
 have hv:dx (aU C k) [do_,xo]=some [.slice (some ⟨i,off,none⟩) dl c,.slice a m mc]:=by simp[dx,hd,hx]
 refine WT.step (l:=[]) hl λe0 h0 hk hs0=>⟨.int .i64 0,h0,F,own,⟨0,λN _=>?_⟩,ar.le.refl F,hs0,by rw[hdst,ay hn];exact h⟩;refine gp hk hw ?_ _;rw[hop];have hf:eU h0 s 0 (.slice a m mc)=some []:=by
  cases a with
  | none=>rfl
  | some p=>
   obtain⟨b,o2,sp⟩:=p;obtain rfl:sp=none:=hsp _ rfl;rfl
 simp only[aN,hv,bR,vp,bO hT hr hde,cq hT hs,gV,hmin,hf];rfl
theorem WT.Ef(hT:aO C T=true)(p:Nat){t e:Nat}{ts:List TypeId}{r:Row}{do_ xo:Operand}{i off dl c m s:Nat}{x:Value}{cs new:List Value}{az:a6}(hop:o.op=.call ⟨.builtin .copy,⟨[do_,xo]⟩,⟨t::ts⟩⟩)(hw:aE ops k o=some true){dst:Nat}(hdst:o.dst=some dst)(hn:Nat.blt dst n=true)
  (hd:aU C k do_=some (.slice (some ⟨i,off,none⟩) dl c)) (hx:aU C k xo=some x) (hr:rowOf T t=some r) (hde:r.d=.slice e) (hs:eY T e=some s) (hlen:gV x=some m) (hp:own[p]?=some [(i,.cells false cs)])
  (hnew:∀h,St F own h->eU h s (Nat.min m dl) x=some new) (hone:new.all one=true) (hne:new≠[]) (hfit:off+new.length<=cs.length) (ho:mX own p [(i,.cells false (aV cs off new))]=some az)
  (h:WT C n ops rest ((dst,.int .i64 ((Nat.min m dl:Nat):Int))::k) F az (λk2 F2 own2 rs=>Q k2 F2 own2 (⟨F,own,F,az,[]⟩::rs))):WT C n ops (o::rest) k F own Q:=by
 have hl:aY (aU C k) o.op=some []:=by rw[hop];rfl
 have hv:dx (aU C k) [do_,xo]=some [.slice (some ⟨i,off,none⟩) dl c,x]:=by simp[dx,hd,hx]
 have e2:=dY _ _ _ _ ho;refine WT.step (l:=[]) hl λe0 h0 hk hs0=>?_;have hb:=hs0.has hp (Rl ..);refine⟨.int .i64 ((Nat.min m dl:Nat):Int),h0.put i (some (.cells false (aV cs off new))),F,az,⟨0,λN _=>?_⟩,ar.le.refl F,?_,by rw[hdst,ay hn];exact h⟩
 ·refine gp hk hw ?_ _;rw[hop];have h1:new.isEmpty=false:=by cases new with | nil=>exact absurd rfl hne | cons=>rfl
  have h2:Nat.ble (off+new.length) cs.length=true:=RP hfit;simp only[aN,hv,bR,vp,bO hT hr hde,cq hT hs,hlen,hnew h0 hs0,hone,SS,Ri,h1,hb,h2,OF];rfl
 ·have:=hs0.put hp (q:=0) rfl (.cells false (aV cs off new));simp only[Tq] at this;rw[e2] at this;exact this
end
end Go.Abs
namespace Go.Abs
open Go
theorem jj{C:Ctx}{T:RT}(hT:aO C T=true){t e s:Nat}{r:Row}(hr:rowOf T t=some r)(hd:r.d=.slice e)(hs:eY T e=some s){b off len c lo hi:Nat}{vlo vhi:Option Value}(h1:cZ vlo 0=some lo)(h2:cZ vhi len=some hi)(hlo:lo<=hi)(hhi:hi<=len)(hc:c=0\/c=s)(h:aq) :
  kM C h t (.slice (some ⟨b,off,none⟩) len c) vlo vhi none=some (.slice (some ⟨b,off+lo*s,none⟩) (hi-lo) c):=by
 have e1:Nat.ble lo hi=true:=RP hlo;have e2:Nat.ble hi len=true:=RP hhi;have e3:(c==0||c==s)=true:=by rcases hc with rfl | rfl<;>simp
 simp only[kM,bO hT hr hd,cq hT hs,h1,h2,e1,e2,e3,TC,OF]
theorem tB{x z:Value}(j k m:Nat)(hm:m<=k):aV (List.replicate j x++List.replicate k z) j (List.replicate m x)=List.replicate (j+m) x++List.replicate (k-m) z:=by
 unfold aV;rw[T1 (by simp),Sa,List.drop_append,Su (by simp)];simp only[Sa,SG,List.drop_replicate];rw[<-RY,List.replicate_append_replicate,show k-(j+m-j)=k-m by omega]
theorem GN{x z:Value}(j k m:Nat)(hm:m<=j):bF (List.replicate j x++List.replicate k z) 0 m=some (List.replicate m x):=by
 unfold bF;have:((List.replicate j x++List.replicate k z).drop 0).take m=List.replicate m x:=by
  rw[S6,SO (by simpa using hm),List.take_replicate,Se hm]
 rw[this];simp
end Go.Abs
namespace Go.Abs
open Go
def Ph{S:Type}(chg:S->bu)(k:bu)(ow:S->a6)(P:S->ar->Prop)(A:Ex->bu->ar->a6->Prop):Ex->bu->ar->a6->Prop
 | .normal,k',F',az=>∃s,bD (chg s++k) k'/\ah (ow s) az/\P s F'
 | x,k',F',az=>A x k' F' az
theorem AW.jn{C:Ctx}{n:Nat}{k:bu}{F:ar}{own:a6}{A:Ex->bu->ar->a6->Prop}{S:Type}(chg:S->bu)(ow:S->a6)(P:S->ar->Prop){a b:Code}(h1:AW C n a k F own (Ph chg k ow P A))
  (h2:∀s F',ar.le F F'->P s F'->AW C n b (chg s++k) F' (ow s) A):AW C n (.seq a b) k F own A:=
 AW.seq (AW.mono h1 λx k' F' az hF hx=>by
  cases x with
  | normal=>
   obtain⟨s,q1,q2,q3⟩:=hx;exact AW.weaken q1 (AW.le q2 (h2 s F' hF q3))
  | exit id=>exact hx
  | ret=>exact hx)
theorem AW.EG{C:Ctx}{n:Nat}{k:bu}{F:ar}{own:a6}{A:Ex->bu->ar->a6->Prop}{S:Type}(chg:S->bu)(ow:S->a6)(P:S->ar->Prop){a b:Code}(h1:AW C n a k F own (Ph chg k ow P A))
  (h2:∀s F',ar.le F F'->P s F'->AW C n b (chg s++k) F' (ow s) A):AW C n a k F own (mV (λk' F' az=>AW C n b k' F' az A) A):=
 AW.mono h1 λx k' F' az hF hx=>by
  cases x with
  | normal=>
   obtain⟨s,q1,q2,q3⟩:=hx;exact AW.weaken q1 (AW.le q2 (h2 s F' hF q3))
  | exit id=>exact hx
  | ret=>exact hx
end Go.Abs
/-
 Clearing a part of an own block;cells split in two.
-/
set_option linter.unusedVariables false
namespace Go.Abs
open Go
section
variable {α:Type}{R:Ty α}{F:ar}
theorem aF.split:∀{xs ys:List α} {cs:List Value},aF R F cs (xs++ys)->∃c1 c2,cs=c1++c2/\aF R F c1 xs/\aF R F c2 ys
 | [],ys,cs,h=>⟨[],cs,rfl,.nil,h⟩
 | x::xs,ys,cs,h=>by
  cases h with
  | cons h1 h2=>
   rename_i l cs1;obtain⟨c1,c2,rfl,h3,h4⟩:=aF.split (xs:=xs) h2;exact⟨l++c1,c2,by simp,.cons h1 h3,h4⟩
theorem aF.rows{l:List Value}{x:α}(h:R.rel F l x):∀n,aF R F (cX l n) (List.replicate n x)
 | 0=>.nil
 | n+1=>.cons h (aF.rows h n)
theorem aF.PB{l:List Value}{x:α}(h:R.rel F l x){xs:List α}{cs:List Value}(hc:aF R F cs xs){i n:Nat}(hi:i+n=xs.length) :
  aF R F (aV cs (i*R.size) (cX l n)) (xs.take i++List.replicate n x):=by
 rw[<-Si i xs] at hc;obtain⟨c1,c2,rfl,h1,h2⟩:=hc.split;have l1:=h1.len;have l2:=h2.len;have l3:=(aF.rows (n:=n) h).len;rw[Sa] at l3;have e1:c1.length=i*R.size:=by rw[l1,RK,Se (by omega)]
 have e:aV (c1++c2) (i*R.size) (cX l n)=c1++cX l n:=by
  unfold aV;rw[<-e1,List.take_left,Su]
  ·simp
  ·rw[Rf,l2,l3,List.length_drop];have:xs.length-i=n:=by omega
   rw[this];omega
 rw[e];exact h1.append (aF.rows h n)
end
section
variable {C:Ctx}{T:RT}{n:Nat}{k:bu}{F:ar}{own:a6}{ops rest:List Oper}{o:Oper}{Q:bu->ar->a6->List Rec->Prop}{α:Type}{R:Ty α}
theorem WT.Ie(hT:aO C T=true)(p:Nat){t e:Nat}{ts:List TypeId}{r:Row}{xo:Operand}{a:Option Addr}{b m c c2 i l:Nat}{B:List (Nat×aD)}{dh:List (Nat×aD)->a6}{xs:List α}{x0:α}{z:Value}(hv:dC R F a m c B xs)(ha:a=some ⟨b,0,none⟩)(hop:o.op=.call ⟨.builtin .clear,⟨[xo]⟩,⟨t::ts⟩⟩)(hw:aE ops k o=some true)(hdst:o.dst=none)
  (hx:aU C k xo=some (.slice (some ⟨b,0+i*R.size,none⟩) l c2)) (hr:rowOf T t=some r) (hde:r.d=.slice e) (hz:jB T e=some z) (hz0:R.rel F z.cells.toList x0) (hl:i+l=m) (hpos:0<l) (hp:own[p]?=some B) (hupd:∀B',mX own p B'=some (dh B'))
  (h:∀B',dC R F a m c B' (xs.take i++List.replicate l x0)->WT C n ops rest k F (dh B') (λk2 F2 own2 rs=>Q k2 F2 own2 (⟨F,own,F,dh B',[]⟩::rs))):WT C n ops (o::rest) k F own Q:=by
 have hlen:=hv.len;obtain⟨x,hx0⟩:∃x,xs[0]?=some x:=⟨_,RL (by omega)⟩;obtain⟨i',cs,h1,rfl,h3,h4⟩:=hv.at_ hx0;rw[ha] at h1;injection h1 with h1;injection h1 with h1;subst h1;have hlk:aY (aU C k) o.op=some []:=by rw[hop];rfl
 have hvs:dx (aU C k) [xo]=some [.slice (some ⟨b,0+i*R.size,none⟩) l c2]:=by simp[dx,hx]
 have hwipe:=h3.PB hz0 (i:=i) (n:=l) (by omega);have hrl:=(aF.rows (n:=l) hz0).len;rw[Sa] at hrl;have hcl:=h3.len;have hfit:(0+i*R.size)+(cX z.cells.toList l).length<=cs.length:=by
  rw[hrl,hcl,<-hlen,<-hl,R3];omega
 have e2:=dY _ _ _ _ (hupd [(b,.cells false (aV cs (i*R.size) (cX z.cells.toList l)))]);refine WT.step (l:=[]) hlk λe0 h0 hk hs0=>?_;have hb:=hs0.has hp (Rl ..);refine⟨dq,h0.put b (some (.cells false (aV cs (i*R.size) (cX z.cells.toList l)))),F,dh [(b,.cells false (aV cs (i*R.size) (cX z.cells.toList l)))],⟨0,λN _=>?_⟩,ar.le.refl F,?_,?_⟩
 ·refine gp hk hw ?_ _;rw[hop];have h5:(cX z.cells.toList l).all one=true:=(aF.rows hz0 l).one;have h6:Nat.ble (i*R.size+(cX z.cells.toList l).length) cs.length=true:=RP (by rw[Rn] at hfit;exact hfit);cases l with
  | zero=>omega
  | succ l=>
   simp only[aN,hvs,bR,nM,bO hT hr hde,ej hT hz,hb,Rn,h5,h6,TC,OF];rfl
 ·have:=hs0.put hp (q:=0) rfl (.cells false (aV cs (i*R.size) (cX z.cells.toList l)));simp only[Tq] at this;rw[e2] at this;exact this
 ·rw[hdst];exact h _ ⟨by simp;omega,hv.cap,hv.zero,hv.nil,hv.spot,.inr ⟨b,_,ha,rfl,hwipe,h4⟩⟩
end
end Go.Abs
/-
 Vectors inside a greater slot: read where they lie.
-/
set_option linter.unusedVariables false
namespace Go.Abs
open Go
section
variable {C:Ctx}{T:RT}{n:Nat}{k:bu}{F:ar}{own:a6}{ops rest:List Oper}{o:Oper}{Q:bu->ar->a6->List Rec->Prop}{α:Type}{R:Ty α}
theorem WT.Pe(hT:aO C T=true)(p:Nat){t:TypeId}{ao:Operand}{a:Option Addr}{m c j b:Nat}{B B2:List (Nat×aD)}{xs:List α}{x:α}{r:Row}(hv:dC R F a m c B xs)(ha:a=some ⟨b,0,none⟩)(hj:xs[j]?=some x)(hop:o.op=.load t ao)(hw:aE ops k o=some true){dst:Nat}(hdst:o.dst=some dst)(hn:Nat.blt dst n=true)
  (hao:aU C k ao=some (.pointer (some ⟨b,j*R.size,none⟩))) (hp:own[p]?=some B2) (hsub:∀z,z∈B->z∈B2) (hr:rowOf T t=some r) (hd:r.d.agg=true) (hs:r.size=R.size)
  (h:∀l,R.rel F l x->WT C n ops rest ((dst,.agg ⟨l⟩)::k) F own (λk2 F2 own2 rs=>Q k2 F2 own2 (⟨F,own,F,own,[b]⟩::rs))):WT C n ops (o::rest) k F own Q:=by
 obtain⟨i,cs,h1,rfl,h3,h4⟩:=hv.at_ hj;rw[ha] at h1;injection h1 with h1;injection h1 with h1;subst h1;obtain⟨l,h5,h6⟩:=h3.at j x hj;exact WT.mD p hop hw hao hp (hsub _ (Rl ..)) (th hT hr hd hs h5) (by rw[hdst,ay hn];exact h l h6)
theorem WT.IU(hT:aO C T=true)(p:Nat){t:TypeId}{ao:Operand}{a:Option Addr}{m c j b:Nat}{B B2:List (Nat×aD)}{xs:List α}{x:α}{r:Row}{v:Value}(hv:dC R F a m c B xs)(ha:a=some ⟨b,0,none⟩)(hj:xs[j]?=some x)(hop:o.op=.load t ao)(hw:aE ops k o=some true){dst:Nat}(hdst:o.dst=some dst)(hn:Nat.blt dst n=true)
  (hao:aU C k ao=some (.pointer (some ⟨b,j*R.size,none⟩))) (hp:own[p]?=some B2) (hsub:∀z,z∈B->z∈B2) (hr:rowOf T t=some r) (hd:r.d.agg=false) (hs:R.size=1) (hval:∀l,R.rel F l x->l=[v])
  (h:WT C n ops rest ((dst,v)::k) F own (λk2 F2 own2 rs=>Q k2 F2 own2 (⟨F,own,F,own,[b]⟩::rs))):WT C n ops (o::rest) k F own Q:=by
 obtain⟨i,cs,h1,rfl,h3,h4⟩:=hv.at_ hj;rw[ha] at h1;injection h1 with h1;injection h1 with h1;subst h1;obtain⟨l,h5,h6⟩:=h3.at j x hj;rw[show R.size=1 from hs] at hao h5;exact WT.mD p hop hw hao hp (hsub _ (Rl ..)) (n9 hT hr hd (sy h5 (hval l h6))) (by rw[hdst,ay hn];exact h)
end
theorem uS:∀(n:Nat) (l:List Nat),l.Nodup->(∀x∈l,x<n)->l.length<=n
 | 0,l,_,h=>by
  cases l with
  | nil=>simp
  | cons x l=>exact absurd (h x (Rl ..)) (Tr _)
 | n+1,l,hn,h=>by
  have h1:=uS n (l.erase n) (hn.erase n) (λx hx=>by
   have h2:=h x (List.mem_of_mem_erase hx);have h3:x≠n:=by
    rintro rfl;exact(List.Nodup.not_mem_erase hn) hx
   omega)
  rw[List.length_erase] at h1;split at h1<;>omega
end Go.Abs
/-
 Sums and differences of naturals.
-/
set_option linter.unusedVariables false
namespace Go.Abs
open Go
section
variable {C:Ctx}{n:Nat}{k:bu}{F:ar}{own:a6}{ops rest:List Oper}{o:Oper}{Q:bu->ar->a6->List Rec->Prop}
theorem WT.NR{d:Nat}{t ty:TypeId}{xo yo:Operand}{x:Nat}(hop:o.op=.binOp .add t xo yo ty)(hw:aE ops k o=some true)(hd:o.dst=some d)(hn:Nat.blt d n=true)(hx:aU C k xo=some (.int .i64 (x:Nat)))(hy:aU C k yo=some (.int .i64 1))(hb:x<=9223372036854775806)
  (h:WT C n ops rest ((d,.int .i64 ((x+1:Nat):Int))::k) F own (λk2 F2 own2 rs=>Q k2 F2 own2 (⟨F,own,F,own,[]⟩::rs))):WT C n ops (o::rest) k F own Q:=
 WT.KH hop hw hd hn hx hy (by omega) (by rw[Int.natCast_add] at h;exact h)
theorem WT.NJ{d:Nat}{t ty:TypeId}{xo yo:Operand}{x y:Nat}(hop:o.op=.binOp .add t xo yo ty)(hw:aE ops k o=some true)(hd:o.dst=some d)(hn:Nat.blt d n=true)(hx:aU C k xo=some (.int .i64 (x:Nat)))(hy:aU C k yo=some (.int .i64 (y:Nat)))(hb:x+y<=9223372036854775807)
  (h:WT C n ops rest ((d,.int .i64 ((x+y:Nat):Int))::k) F own (λk2 F2 own2 rs=>Q k2 F2 own2 (⟨F,own,F,own,[]⟩::rs))):WT C n ops (o::rest) k F own Q:=
 WT.KH hop hw hd hn hx hy (by omega) (by rw[Int.natCast_add] at h;exact h)
theorem WT.Oe{d:Nat}{t ty:TypeId}{xo yo:Operand}{x:Nat}(hop:o.op=.binOp .sub t xo yo ty)(hw:aE ops k o=some true)(hd:o.dst=some d)(hn:Nat.blt d n=true)(hx:aU C k xo=some (.int .i64 (x:Nat)))(hy:aU C k yo=some (.int .i64 1))(hb:1<=x/\x<=9223372036854775807)
  (h:WT C n ops rest ((d,.int .i64 ((x-1:Nat):Int))::k) F own (λk2 F2 own2 rs=>Q k2 F2 own2 (⟨F,own,F,own,[]⟩::rs))):WT C n ops (o::rest) k F own Q:=
 WT.Io hop hw hd hn hx hy (by omega) (by rw[show ((x-1:Nat):Int)=(x:Int)-1 by omega] at h;exact h)
theorem WT.NL{d:Nat}{t ty:TypeId}{xo yo:Operand}{x y:Nat}(hop:o.op=.binOp .sub t xo yo ty)(hw:aE ops k o=some true)(hd:o.dst=some d)(hn:Nat.blt d n=true)(hx:aU C k xo=some (.int .i64 (x:Nat)))(hy:aU C k yo=some (.int .i64 (y:Nat)))(hb:y<=x/\x<=9223372036854775807)
  (h:WT C n ops rest ((d,.int .i64 ((x-y:Nat):Int))::k) F own (λk2 F2 own2 rs=>Q k2 F2 own2 (⟨F,own,F,own,[]⟩::rs))):WT C n ops (o::rest) k F own Q:=
 WT.Io hop hw hd hn hx hy (by omega) (by rw[show ((x-y:Nat):Int)=(x:Int)-(y:Int) by omega] at h;exact h)
theorem WT.Oc{d:Nat}{t ty:TypeId}{xo yo:Operand}{x:Nat}(hop:o.op=.binOp .mul t xo yo ty)(hw:aE ops k o=some true)(hd:o.dst=some d)(hn:Nat.blt d n=true)(hx:aU C k xo=some (.int .i64 2))(hy:aU C k yo=some (.int .i64 (x:Nat)))(hb:2*x<=9223372036854775807)
  (h:WT C n ops rest ((d,.int .i64 ((2*x:Nat):Int))::k) F own (λk2 F2 own2 rs=>Q k2 F2 own2 (⟨F,own,F,own,[]⟩::rs))):WT C n ops (o::rest) k F own Q:=
 WT.Nc hop hw hd hn hx hy (by omega) (by rw[TZ] at h;exact h)
theorem WT.mulL(l:Nat){d:Nat}{t ty:TypeId}{xo yo:Operand}{x:Nat}(hop:o.op=.binOp .mul t xo yo ty)(hw:aE ops k o=some true)(hd:o.dst=some d)(hn:Nat.blt d n=true)(hx:aU C k xo=some (.int .i64 (x:Nat)))(hy:aU C k yo=some (.int .i64 (l:Nat)))(hb:x*l<=9223372036854775807)
  (h:WT C n ops rest ((d,.int .i64 ((x*l:Nat):Int))::k) F own (λk2 F2 own2 rs=>Q k2 F2 own2 (⟨F,own,F,own,[]⟩::rs))):WT C n ops (o::rest) k F own Q:=
 WT.Nc hop hw hd hn hx hy (by rw[<-TZ];omega) (by rw[TZ] at h;exact h)
theorem WT.Du(l:Nat){d:Nat}{t ty:TypeId}{xo yo:Operand}{x:Nat}(hop:o.op=.binOp .quo t xo yo ty)(hw:aE ops k o=some true)(hd:o.dst=some d)(hn:Nat.blt d n=true)(hx:aU C k xo=some (.int .i64 (x:Nat)))(hy:aU C k yo=some (.int .i64 (l:Nat)))(hl:0<l)(hb:x<=9223372036854775807)
  (h:WT C n ops rest ((d,.int .i64 ((x / l:Nat):Int))::k) F own (λk2 F2 own2 rs=>Q k2 F2 own2 (⟨F,own,F,own,[]⟩::rs))):WT C n ops (o::rest) k F own Q:=by
 have h1:x / l<=x:=Uu _ _;have h2:Int.tdiv (x:Int) (l:Int)=((x / l:Nat):Int):=by rw[Int.tdiv_eq_ediv_of_nonneg (by omega),Int.natCast_ediv]
 generalize x / l=q at h1 h2 h;refine WT.bin (r:=.int .i64 (q:Int)) hop hw hx hy ?_ (by simp) (by rw[hd,ay hn];exact h);simp only[kQ,Sv,b9];rw[By (by omega),h2,wrap64 (by omega)]
end
end Go.Abs
/-
 A whole element that lies in a frozen block is read.
-/
set_option linter.unusedVariables false
namespace Go.Abs
open Go
section
variable {C:Ctx}{T:RT}{n:Nat}{k:bu}{F:ar}{own:a6}{ops rest:List Oper}{o:Oper}{Q:bu->ar->a6->List Rec->Prop}
theorem WT.LO(hT:aO C T=true){t:TypeId}{ao:Operand}{b off m:Nat}{ro:Bool}{cs l:List Value}{r:Row}(hb:F b=some (.cells ro cs))(hp:bF cs off m=some l)(hop:o.op=.load t ao)(hw:aE ops k o=some true){dst:Nat}(hdst:o.dst=some dst)(hn:Nat.blt dst n=true)
  (ha:aU C k ao=some (.pointer (some ⟨b,off,none⟩))) (hr:rowOf T t=some r) (hd:r.d.agg=true) (hm:r.size=m)
  (h:WT C n ops rest ((dst,.agg ⟨l⟩)::k) F own (λk2 F2 own2 rs=>Q k2 F2 own2 (⟨F,own,F,own,[b]⟩::rs))):WT C n ops (o::rest) k F own Q:=
 WT.uA hop hw ha hb (th hT hr hd hm hp) (by rw[hdst,ay hn];exact h)
end
end Go.Abs
/-
 A byte of a string that stands in the text.
-/
set_option linter.unusedVariables false
namespace Go.Abs
open Go
theorem MF{x:Int}(h:0<=x/\x<256):IntKind.u8.wrap x=x:=by
 unfold IntKind.wrap;have hs:IntKind.u8.signed=false:=rfl;have hb:IntKind.u8.bits=8:=rfl;have:(2:Int) ^ 8=256:=rfl;simp only[hs,hb,Ub,this];exact T8 h.1 h.2
section
variable {C:Ctx}{T:RT}{n:Nat}{k:bu}{F:ar}{own:a6}{ops rest:List Oper}{o:Oper}{Q:bu->ar->a6->List Rec->Prop}
theorem WT.HZ(hT:aO C T=true){t:TypeId}{xo io:Operand}{s:ByteArray}{j m:Nat}{kd:IntKind}{r:Row}{f:Nat->Nat}(hop:o.op=.index t xo io)(hw:aE ops k o=some true){dst:Nat}(hdst:o.dst=some dst)(hn:Nat.blt dst n=true)
  (hx:aU C k xo=some (.string s)) (hi:aU C k io=some (.int kd (j:Nat))) (hr:rowOf T t=some r) (hd:r.d=.string) (hj:j<m) (htab:∀j,j<m->(s.data.toList[j]?).map UInt8.toNat=some (f j))
  (h:WT C n ops rest ((dst,.int .u8 (f j:Nat))::k) F own (λk2 F2 own2 rs=>Q k2 F2 own2 (⟨F,own,F,own,[]⟩::rs))):WT C n ops (o::rest) k F own Q:=by
 refine WT.still (l:=[]) hw (by rw[hop];rfl) (λh0 _=>?_) (by rw[hdst,ay hn];exact h);rw[hop];have h1:=htab j hj;cases hb:s.data.toList[j]? with
 | none=>rw[hb] at h1;cases h1
 | some b=>
  rw[hb] at h1;have h2:b.toNat=f j:=AT h1;simp only[aN,hx,hi,zh,j7 hT hr hd];rw[If (Tp j),Tz,hb];simp[h2]
end
end Go.Abs
/-
 The lesser of two numbers;slices that lie at the beginning of a longer block of one's own.
-/
set_option linter.unusedVariables false
namespace Go.Abs
open Go
structure KP{α:Type}(R:Ty α)(F:ar)(b m:Nat)(B:List (Nat×aD))(xs:List α):Prop where
 len:m=xs.length
 pos:0<R.size
 bp:∃cs cw,B=[(b,.cells false cs)]/\bF cs 0 (m*R.size)=some cw/\aF R F cw xs
section
variable {α:Type}{R:Ty α}{F G:ar}{b m:Nat}{B:List (Nat×aD)}{xs:List α}
theorem Jx{cs l:List Value}{off n:Nat}(h:bF cs off n=some l):l=(cs.drop off).take n/\l.length=n:=by
 unfold bF at h;cases e:(((cs.drop off).take n).length==n) with
 | false=>simp only[e,Ri] at h;cases h
 | true=>
  simp only[e,OF] at h;obtain rfl:=AT h;exact⟨rfl,eq_of_beq e⟩
theorem qv{cs l:List Value}{off n:Nat}(h:l=(cs.drop off).take n)(hl:l.length=n):bF cs off n=some l:=by
 unfold bF;rw[<-h];show (bif l.length==n then some l else none)=some l;rw[hl];simp
theorem KP.mono(h:KP R F b m B xs)(hF:ar.le F G):KP R G b m B xs:=by
 obtain⟨h1,h2,cs,cw,h3,h4,h5⟩:=h;exact⟨h1,h2,cs,cw,h3,h4,h5.mono hF⟩
end
section
variable {C:Ctx}{T:RT}{n:Nat}{k:bu}{F:ar}{own:a6}{ops rest:List Oper}{o:Oper}{Q:bu->ar->a6->List Rec->Prop}{α:Type}{R:Ty α}
end
end Go.Abs
/-
 Appending to a vector;calls of function values that are handed a slot.
-/
set_option linter.unusedVariables false
namespace Go.Abs
open Go
section
variable {C:Ctx}{T:RT}{n:Nat}{k:bu}{F:ar}{own:a6}{ops rest:List Oper}{o:Oper}{Q:bu->ar->a6->List Rec->Prop}{α:Type}{R:Ty α}
end
end Go.Abs
/-
 Entries of map literals.
-/
set_option linter.unusedVariables false
namespace Go.Abs
open Go
section
variable {C:Ctx}{T:RT}{t:TypeId}{κ:Type}[DecidableEq κ](K:om C t κ)
variable {n:Nat}{k:bu}{F:ar}{own:a6}{ops rest:List Oper}{o:Oper}{Q:bu->ar->a6->List Rec->Prop}
theorem WT.C1(hT:aO C T=true)(p q:Nat){tm et:TypeId}{mo ko vo:Operand}{i:Nat}{m:cQ κ}{key:κ}{v:Value}{r:Row}{B B':List (Nat×aD)}{az:a6}(hop:o.op=.insert tm mo ko vo)(hw:aE ops k o=some true)(hdst:o.dst=none)
  (hm:aU C k mo=some (.map (some i))) (hk:aU C k ko=some (K.key key)) (hv:aU C k vo=some v) (hp:own[p]?=some B) (hq:B[q]?=some (i,aD.map (aK K m))) (hr:rowOf T tm=some r) (hd:r.d=.map t et)
  (hB:ur B q (i,.map (aK K (dX m key v)))=some B') (ho:mX own p B'=some az)
  (h:WT C n ops rest k F az (λk2 F2 own2 rs=>Q k2 F2 own2 (⟨F,own,F,az,[]⟩::rs))):WT C n ops (o::rest) k F own Q:=by
 have e1:=oW _ _ _ _ hB;have e2:=dY _ _ _ _ ho;subst e1;subst e2;refine WT.put (v:=dq) (b':=.map (aK K (dX m key v))) p q hp hq hw (by rw[hop];rfl) (λh0 s0 hb=>?_) (by rw[hdst];exact h);rw[hop];rcases iH K key m 0 with ⟨h3,h4⟩ | ⟨j,v2,h3,h4,h5,h6⟩
 ·simp only[aN,hm,hk,hv,cH,dP hT hr hd,hb,cO K m,K.ok,h4,lv K key v m h3];rfl
 ·simp only[aN,hm,hk,hv,cH,dP hT hr hd,hb,cO K m,jd K,K.ok,h4,Rn,h5,fw,<-h6 v];rfl
end
end Go.Abs
/-
 Method calls,interfaces,addresses held against each other;maps with marks of what was deleted;own slices at the beginning of a longer block.
-/
set_option linter.unusedVariables false
namespace Go.Abs
open Go
structure GB{α:Type}(R:Ty α)(F:ar)(a:Option Addr)(n c:Nat)(B:List (Nat×aD))(xs:List α):Prop where
 len:n=xs.length
 at_:(xs=[]/\a=none/\c=0/\B=[])\/∃i cs rest,a=some ⟨i,0,none⟩/\c=R.size/\B=[(i,.cells false (cs++rest))]/\aF R F cs xs/\0<R.size
section
variable {α:Type}{R:Ty α}{F G:ar}{a:Option Addr}{n c:Nat}{B:List (Nat×aD)}{xs:List α}
theorem dy.gb(h:dy R F a n c B xs):GB R F a n c B xs:=
 ⟨h.len,h.at_.imp id λ⟨i,cs,h1,h2,h3,h4,h5⟩=>⟨i,cs,[],h1,h2,by rw[R0];exact h3,h4,h5⟩⟩
theorem GB.mono(h:GB R F a n c B xs)(hF:ar.le F G):GB R G a n c B xs:=
 ⟨h.len,h.at_.imp id λ⟨i,cs,rest,h1,h2,h3,h4,h5⟩=>⟨i,cs,rest,h1,h2,h3,h4.mono hF,h5⟩⟩
theorem aF.take{cs:List Value}{xs:List α}(h:aF R F cs xs):∀k,k<=xs.length->aF R F (cs.take (k*R.size)) (xs.take k):=by
 induction h with
 | nil=>intro k hk;simp;exact .nil
 | @cons l cs x xs h1 h2 ih=>
  intro k hk;cases k with
  | zero=>simp;exact .nil
  | succ k=>
   have hl:=R.len _ _ _ h1;have e:(l++cs).take ((k+1)*R.size)=l++cs.take (k*R.size):=by
    rw[show (k+1)*R.size=l.length+k*R.size by rw[hl,R3];omega,List.take_append,No (by omega)];congr 1;congr 1;omega
   rw[e,List.take_succ_cons];exact .cons h1 (ih k (by simpa using hk))
theorem GB.take(h:GB R F a n c B xs){k:Nat}(hk:k<=n):GB R F a k c B (xs.take k):=by
 have hl:=h.len;refine⟨by simp;omega,?_⟩;rcases h.at_ with ⟨rfl,h2,h3,h4⟩ | ⟨i,cs,rest,h1,h2,h3,h4,h5⟩
 ·exact .inl ⟨by simp,h2,h3,h4⟩
 ·refine .inr ⟨i,cs.take (k*R.size),cs.drop (k*R.size)++rest,h1,h2,?_,h4.take k (by omega),h5⟩;rw[<-RY,Si];exact h3
theorem FO{cs rest:List Value}{off n:Nat}{l:List Value}(h:bF cs off n=some l):bF (cs++rest) off n=some l:=by
 obtain⟨h1,h2⟩:=Jx h;refine qv ?_ h2;rcases Tb n with h0 | h0
 ·subst h0;rw[h1];simp
 ·have:off+n<=cs.length:=by
   have:=congrArg List.length h1;rw[h2] at this;simp at this;omega
  rw[List.drop_append_of_le_length (by omega),SO (by simp;omega)];exact h1
theorem GB.arr(h:GB R F a n c B xs)(hG:ar.le F G)(hB:∀i b,(i,b)∈B->G i=some b):bw R G a n c xs:=by
 have hl:=h.len;rcases h.at_ with ⟨rfl,rfl,rfl,rfl⟩ | ⟨i,cs,rest,rfl,rfl,rfl,h4,h5⟩
 ·have:n=0:=hl;subst this;exact bw.gq R G
 ·refine⟨hl,.inr rfl,λh=>(by omega),λh=>(by cases h),λp hp=>(by cases hp;rfl),λj x hj=>?_⟩;obtain⟨l,h6,h7⟩:=(h4.mono hG).at j x hj;exact⟨i,0,false,cs++rest,l,rfl,hB i _ (Rl ..),by rw[Rn];exact FO h6,h7⟩
theorem GB.OT{i:Nat}(h:GB R F (some ⟨i,0,none⟩) n c B xs):KP R F i n B xs/\c=R.size:=by
 have hl:=h.len;rcases h.at_ with ⟨_,h2,_,_⟩ | ⟨j,cs,rest,h1,h2,h3,h4,h5⟩
 ·cases h2
 ·cases h1;refine⟨⟨hl,h5,cs++rest,cs,h3,?_,h4⟩,h2⟩;have:=h4.len;refine qv ?_ (by rw[this,<-hl]);rw[S6,SO (by rw[this,<-hl];exact AS _),No (by rw[this,<-hl];exact AS _)]
end
section
variable {C:Ctx}{T:RT}{n:Nat}{k:bu}{F:ar}{own:a6}{ops rest:List Oper}{o:Oper}{Q:bu->ar->a6->List Rec->Prop}{α:Type}{R:Ty α}
theorem WT.zm(hT:aO C T=true)(p:Nat){B:List (Nat×aD)}{dh:List (Nat×aD)->a6}{a:Option Addr}{m c d by_:Nat}{xs ys:List α}{ds:List Value}{t e:Nat}{ts:List TypeId}{r:Row}{z x:Value}{xo so:Operand}
  (hb:GB R F a m c B xs) (hp:own[p]?=some B) (hupd:∀B',mX own p B'=some (dh B')) (hop:o.op=.call ⟨.builtin .append,⟨[so,xo]⟩,⟨t::ts⟩⟩) (hw:aE ops k o=some true) {dst:Nat} (hdst:o.dst=some dst) (hn:Nat.blt dst n=true)
  (hs:aU C k so=some (.slice a m c)) (hx:aU C k xo=some x) (hr:rowOf T t=some r) (hd:r.d=.slice e) (hsz:eY T e=some R.size) (hz:jB T e=some z) (hby:pC T e=some by_)
  (hnew:∀h,St F own h->kG C h e R.size ts.head? x=some (d,ds)) (hds:aF R F ds ys) (hlen:d=ys.length) (hpos:0<d/\0<R.size/\0<by_) (hroom:(m+d)*by_<=140737488355328)
  (h:∀a' c' B',dy R F a' (m+d) c' B' (xs++ys)->WT C n ops rest ((dst,.slice a' (m+d) c')::k) F (dh B') (λk2 F2 own2 rs=>Q k2 F2 own2 (⟨F,own,F,dh B',[]⟩::rs))) :
  WT C n ops (o::rest) k F own Q:=by
 have hm:=hb.len;rcases hb.at_ with ⟨h1,h2,h3,h4⟩ | ⟨i,cs,rst,h1,h2,h3,h4,h5⟩
 ·exact WT.bP hT p (⟨hm,.inl ⟨h1,h2,h3,h4⟩⟩:dy R F a m c B xs) hp hupd hop hw hdst hn hs hx hr hd hsz hz hby hnew hds hlen hpos hroom h
 ·subst h1;obtain⟨hpb,hc⟩:=hb.OT;subst hc;subst h3;have h6:bF (cs++rst) 0 (m*R.size)=some cs:=by
   have:=h4.len;refine qv ?_ (by rw[this,<-hm]);rw[S6,SO (by rw[this,<-hm];exact AS _),No (by rw[this,<-hm];exact AS _)]
  have hl:aY (aU C k) o.op=some []:=by rw[hop];rfl
  have hv:dx (aU C k) [so,xo]=some [.slice (some ⟨i,0,none⟩) m R.size,x]:=by simp[dx,hs,hx]
  have hcond:(!(ds.length==d*R.size&&ds.all one&&Nat.blt 0 R.size&&Nat.blt 0 by_&&Nat.ble ((m+d)*by_) 140737488355328))=false:=by
   have g1:(ds.length==d*R.size)=true:=by rw[hds.len,hlen];simp
   have g2:Nat.blt 0 R.size=true:=RP h5;have g3:Nat.blt 0 by_=true:=RP hpos.2.2;have g4:Nat.ble ((m+d)*by_) 140737488355328=true:=RP hroom;rw[g1,g2,g3,g4,hds.one];rfl
  have hd1:(d==0)=false:=by simp;omega
  refine WT.move (mk:=λj=>.slice (some ⟨j,0,none⟩) (m+d) R.size) (b:=.cells false (cs++rst)) (b':=.cells false (cs++ds)) p hp hw hl (λh0 s0 hg=>?_) (λj hj=>?_)
  ·rw[hop];have hc0:(R.size==0)=false:=by simp;omega
   have hcc:(!(R.size==R.size))=false:=by simp
   simp only[aN,hv,bR,ja,bO hT hr hd,cq hT hsz,ej hT hz,jQ hT hby,hnew h0 s0,hcond,hd1,Ri,hc0,hcc,hg,h6];rfl
  ·rw[hdst,ay hn,dY _ _ _ _ (hupd [(j,.cells false (cs++ds))])];exact h _ _ _ ⟨by simp;omega,.inr ⟨j,_,rfl,rfl,rfl,h4.append hds,h5⟩⟩
end
section
variable {C:Ctx}{T:RT}{n:Nat}{k:bu}{F:ar}{own:a6}{ops rest:List Oper}{o:Oper}{Q:bu->ar->a6->List Rec->Prop}
end
section
variable {C:Ctx}{T:RT}{n:Nat}{k:bu}{F:ar}{own:a6}{ops rest:List Oper}{o:Oper}{Q:bu->ar->a6->List Rec->Prop}{α:Type}{R:Ty α}
end
end Go.Abs
/-
 Maps with marks of what was deleted: looking up,setting,deleting,entries.
-/
set_option linter.unusedVariables false
namespace Go.Abs
open Go
section
variable {C:Ctx}{T:RT}{t:TypeId}{κ:Type}[DecidableEq κ](K:om C t κ)
variable {n:Nat}{k:bu}{F:ar}{own:a6}{ops rest:List Oper}{o:Oper}{Q:bu->ar->a6->List Rec->Prop}
end
end Go.Abs
/-
 Entries of maps that are changed where they lie: 'm[k] |= v'.
-/
set_option linter.unusedVariables false
namespace Go.Abs
open Go
section
variable {C:Ctx}{T:RT}{t:TypeId}{κ:Type}[DecidableEq κ](K:om C t κ)
def jq:cQ κ->κ->Nat
 | [],_=>0
 | (k,_)::m,k2=>if k2=k then 0 else jq m k2+1
def mu(m:cQ κ)(k:κ)(z:Value):cQ κ:=if look m k=none then dX m k z else m
theorem sv(k:κ):∀(m:cQ κ) (i:Nat),(look m k=none->gg C t (K.key k) (aK K m) i=some none/\jq m k=m.length)/\
  (∀v,look m k=some v->gg C t (K.key k) (aK K m) i=some (some (i+jq m k,v))/\(aK K m)[jq m k]?=some (K.key k,v)/\∀v',(aK K m).set (jq m k) (K.key k,v')=aK K (dX m k v'))
 | [],i=>⟨λ_=>⟨rfl,rfl⟩,λv h=>by cases h⟩
 | (k',v')::m,i=>by
  rcases K.eq k k' with ⟨rfl,h⟩ | ⟨hne,h⟩
  ·refine⟨λh2=>by simp[look] at h2,λv h2=>?_⟩;have h2:v'=v:=by simpa [look] using h2
   subst h2;refine⟨?_,?_,λw=>?_⟩
   ·simp only[aK,Na,gg,h,jq,If];rfl
   ·simp only[jq,If,aK,Na];rfl
   ·simp[aK,dX,jq]
  ·obtain⟨h1,h2⟩:=sv k m (i+1);refine⟨λh3=>?_,λv h3=>?_⟩
   ·have h3:look m k=none:=by simpa [look,hne] using h3
    obtain⟨h4,h5⟩:=h1 h3;refine⟨?_,?_⟩
    ·simp only[aK,Na,gg,h];exact h4
    ·simp only[jq,By hne,h5,RG]
   ·have h3:look m k=some v:=by simpa [look,hne] using h3
    obtain⟨h4,h5,h6⟩:=h2 v h3;refine⟨?_,?_,λw=>?_⟩
    ·simp only[aK,Na,gg,h,jq,By hne];rw[show i+(jq m k+1)=i+1+jq m k by omega];exact h4
    ·simp only[jq,By hne,aK,Na,Tg];exact h5
    ·have:=h6 w;simp only[aK] at this;simp only[jq,By hne,aK,Na,TN,dX,this]
omit [DecidableEq κ] in
theorem x9:∀(m:cQ κ) (s j:Nat),j<m.length->(stamps s (aK K m))[j]?=some (s+j)
 | [],_,_,h=>by simp at h
 | (k,v)::m,s,0,_=>by simp only[aK,Na,stamps,iK K k,Ri,Ul,SJ]
 | (k,v)::m,s,j+1,h=>by
  have:=x9 m (s+1) j (by simpa using h);simp only[aK] at this;simp only[aK,Na,stamps,iK K k,Ri,Tg,this];congr 1;omega
omit [DecidableEq κ] in
theorem tH:∀(m:cQ κ) (s j:Nat),j<m.length->(stamps s (aK K m)).findIdx? (λ(b:Nat)=>decide ((b:Int)=((s+j:Nat):Int)))=some j
 | [],_,_,h=>by simp at h
 | (k,v)::m,s,0,_=>by simp[aK,stamps,iK K k,List.findIdx?_cons]
 | (k,v)::m,s,j+1,h=>by
  have:=tH m (s+1) j (by simpa using h);simp only[aK] at this;have hne:¬((s:Int)=((s+(j+1):Nat):Int)):=by omega
  have e:s+1+j=s+(j+1):=by omega
  rw[e] at this;simp only[aK,Na,stamps,iK K k,Ri,List.findIdx?_cons,Us hne,this];rfl
theorem yJ:∀(m:cQ κ) (k:κ) (v:Value),look m k=some v->jq m k<m.length
 | [],_,_,h=>by cases h
 | (k',v')::m,k,v,h=>by
  unfold look at h;unfold jq;split at h
  ·rename_i e;rw[If e];simp
  ·rename_i e;rw[By e,RG];have:=yJ m k v h;omega
theorem yC(m:cQ κ)(k:κ)(z:Value):look (mu m k z) k=some ((look m k).getD z):=by
 unfold mu;split
 ·rename_i h;rw[jM,If rfl,h];rfl
 ·rename_i h;cases e:look m k with
  | none=>exact absurd e h
  | some v=>rfl
theorem yx:∀(m:cQ κ) (k:κ) (z:Value),jq (mu m k z) k=jq m k
 | [],k,z=>by simp[mu,look,dX,jq]
 | (k',v')::m,k,z=>by
  by_cases e:k=k'
  ·subst e;simp[mu,look,jq]
  ·have ih:=yx m k z;unfold mu at ih ⊢;simp only[look,By e];split
   ·rename_i h;rw[If h] at ih;simp only[dX,By e,jq,ih]
   ·rfl
theorem xS:∀(m:cQ κ) (k:κ) (z v:Value),dX (mu m k z) k v=dX m k v
 | [],k,z,v=>by simp[mu,look,dX]
 | (k',v')::m,k,z,v=>by
  by_cases e:k=k'
  ·subst e;simp[mu,look,dX]
  ·have ih:=xS m k z v;unfold mu at ih ⊢;simp only[look,By e];split
   ·rename_i h;rw[If h] at ih;simp only[dX,By e,ih]
   ·rfl
variable {n:Nat}{k:bu}{F:ar}{own:a6}{ops rest:List Oper}{o:Oper}{Q:bu->ar->a6->List Rec->Prop}
theorem yr{α:Type}{l:List α}{p:Nat}{a:α}(h:l[p]?=some a):l.set p a=l:=by
 apply R5;intro i;by_cases e:i=p
 ·subst e;rw[RA (RH.1 h).1,h]
 ·rw[RO (Ne.symm e)]
theorem WT.mapEntry(hT:aO C T=true)(p q:Nat){tm et:TypeId}{mo ko:Operand}{i:Nat}{m:cQ κ}{key:κ}{r:Row}{z:Value}{B B':List (Nat×aD)}{az:a6}{d:Nat}(hop:o.op=.mapEntry tm mo ko)(hw:aE ops k o=some true)(hdst:o.dst=some d)(hn:Nat.blt d n=true)
  (hm:aU C k mo=some (.map (some i))) (hk:aU C k ko=some (K.key key)) (hp:own[p]?=some B) (hq:B[q]?=some (i,aD.map (aK K m))) (hr:rowOf T tm=some r) (hd:r.d=.map t et) (hz:jB T et=some z)
  (hB:ur B q (i,.map (aK K (mu m key z)))=some B') (ho:mX own p B'=some az)
  (h:WT C n ops rest ((d,.tuple ⟨[(look m key).getD z,.int .i64 (jq m key:Nat)]⟩)::k) F az (λk2 F2 own2 rs=>Q k2 F2 own2 (⟨F,own,F,az,[]⟩::rs))):WT C n ops (o::rest) k F own Q:=by
 have e1:=oW _ _ _ _ hB;have e2:=dY _ _ _ _ ho;subst e1;subst e2;have hl:aY (aU C k) o.op=some []:=by rw[hop];rfl
 obtain⟨h3,h4⟩:=sv K key m 0;cases hlk:look m key with
 | none=>
  obtain⟨h5,h6⟩:=h3 hlk;refine WT.put (v:=.tuple ⟨[(look m key).getD z,.int .i64 (jq m key:Nat)]⟩) (b':=.map (aK K (mu m key z))) p q hp hq hw hl (λh0 s0 hb=>?_) (by rw[hdst,ay hn];exact h);rw[hop];have e:mu m key z=dX m key z:=by unfold mu;rw[If hlk]
  have hlen:(aK K m).length=m.length:=by unfold aK;rw[Rq]
  simp only[aN,hm,hk,fJ,dP hT hr hd,hb,cO K m,K.ok,h5,ej hT hz,e,lv K key z m hlk,hlk,h6,hlen];rfl
 | some v=>
  obtain⟨h5,h6,_⟩:=h4 v hlk;have hlt:=yJ m key v hlk;have hst:=x9 K m 0 _ hlt;rw[Rn] at hst h5;have e:mu m key z=m:=by unfold mu;rw[By (by rw[hlk];simp)]
  have eo:own.set p (B.set q (i,.map (aK K (mu m key z))))=own:=by rw[e,yr hq,yr hp]
  rw[eo] at h;refine WT.still (v:=.tuple ⟨[(look m key).getD z,.int .i64 (jq m key:Nat)]⟩) hw hl (λh0 s0=>?_) (by rw[hdst,ay hn];exact h);have hb:=s0.has hp (SI hq);rw[hop];simp only[aN,hm,hk,fJ,dP hT hr hd,hb,cO K m,K.ok,h5,h6,hst,fw,hlk];rfl
theorem WT.entryStore(p q:Nat){tm:TypeId}{mo so xo:Operand}{i:Nat}{m:cQ κ}{key:κ}{v0 v:Value}{B B':List (Nat×aD)}{az:a6}(hop:o.op=.entryStore tm mo so xo)(hw:aE ops k o=some true)(hdst:o.dst=none)
  (hm:aU C k mo=some (.map (some i))) (hs:aU C k so=some (.int .i64 (jq m key:Nat))) (hv:aU C k xo=some v) (hp:own[p]?=some B) (hq:B[q]?=some (i,aD.map (aK K m))) (hlk:look m key=some v0)
  (hB:ur B q (i,.map (aK K (dX m key v)))=some B') (ho:mX own p B'=some az)
  (h:WT C n ops rest k F az (λk2 F2 own2 rs=>Q k2 F2 own2 (⟨F,own,F,az,[]⟩::rs))):WT C n ops (o::rest) k F own Q:=by
 have e1:=oW _ _ _ _ hB;have e2:=dY _ _ _ _ ho;subst e1;subst e2;obtain⟨h5,h6,h7⟩:=(sv K key m 0).2 v0 hlk;have hlt:=yJ m key v0 hlk;have hf:=tH K m 0 _ hlt;rw[Rn] at hf;refine WT.put (v:=dq) (b':=.map (aK K (dX m key v))) p q hp hq hw (by rw[hop];rfl) (λh0 s0 hb=>?_) (by rw[hdst];exact h);rw[hop];simp only[aN,hm,hs,hv,eu,hb,hf,cO K m,h6,jd K,h7];rfl
theorem nC(hT:aO C T=true){tm et:TypeId}{mo ko:Operand}{i:Nat}{m2:cQ κ}{key:κ}{r:Row}{z v:Value}(hop:o.op=.lookup tm mo ko false)
  (hm:aU C k mo=some (.map (some i))) (hk:aU C k ko=some (K.key key)) (hr:rowOf T tm=some r) (hd:r.d=.map t et) (hz:jB T et=some z) {h2:aq} (hb:h2.get i=some (.map (aK K m2))) (hv:(look m2 key).getD z=v) :
  aN C (aU C k) h2 o.op=some (.val v h2):=by
 rw[hop];rcases iH K key m2 0 with ⟨h3,h4⟩ | ⟨j,v,h3,h4,_,_⟩
 ·rw[h3] at hv;have hv:z=v:=hv;simp only[aN,hm,hk,iY,dP hT hr hd,ik,hb,cO K m2,K.ok,h4,ej hT hz,hv];rfl
 ·rw[h3] at hv;simp only[aN,hm,hk,iY,dP hT hr hd,ik,hb,cO K m2,K.ok,h4,<-hv];rfl
theorem WT.Jg(hT:aO C T=true)(p:Nat){tm et:TypeId}{mo ko:Operand}{i:Nat}{m:cQ κ}{key:κ}{r:Row}{z:Value}{B:List (Nat×aD)}{d:Nat}(hop:o.op=.lookup tm mo ko false)(hw:aE ops k o=some true)(hdst:o.dst=some d)(hn:Nat.blt d n=true)
  (hm:aU C k mo=some (.map (some i))) (hk:aU C k ko=some (K.key key)) (hp:own[p]?=some B) (hq:(i,aD.map (aK K m))∈B) (hr:rowOf T tm=some r) (hd:r.d=.map t et) (hz:jB T et=some z)
  (h1:WT C n ops rest ((d,(look m key).getD z)::k) F own (λk2 F2 own2 rs=>Q k2 F2 own2 (@Rec.mk F own F own [i] ⟨λh2=>aN C (aU C k) h2 o.op=some (.val ((look m key).getD z) h2)⟩::rs))):WT C n ops (o::rest) k F own Q:=by
 have hl:aY (aU C k) o.op=some [i]:=by rw[hop];simp only[aY,hm]
 refine WT.po (λh2=>aN C (aU C k) h2 o.op=some (.val ((look m key).getD z) h2)) hl λe h hkn hs=>⟨(look m key).getD z,?_,λh2 hb=>?_,by rw[hdst,ay hn];exact h1⟩
 ·have ho:=nC K hT (o:=o) (v:=(look m key).getD z) hop hm hk hr hd hz (hs.has hp hq) rfl;exact⟨0,λN _=>gp hkn hw ho _⟩
 ·have ho:=nC K hT (o:=o) (v:=(look m key).getD z) hop hm hk hr hd hz (hs.has hp hq) rfl;have e1:=ef hkn.eval ho;have e2:=ef hkn.eval hb;unfold lJ;rw[hop] at e1 e2 ⊢;dsimp only;rw[e1,e2];exact fw _
end
end Go.Abs