/-
  The logic, second part: data in frozen blocks, slices that grow, loops, calls; from contracts to the model.
-/
import Derived.Test.YtmbdmfjijofmmaaGreatDoorAbs6
import Derived.ChangeSlices
import Derived.ChangeArms
import Derived.WideShapes
/-
 How plain data lies in frozen blocks: cells,structs,slices.
-/
set_option linter.unusedVariables false
namespace Go.Abs
open Go
structure Ty(α:Type) where
 size:Nat
 rel:Frz→List Value→α→Prop
 len:∀F l x,rel F l x→l.length=size
 one:∀F l x,rel F l x→l.all Go.Abs.one=true
 mono:∀F G l x,Frz.le F G→rel F l x→rel G l x
structure Arr{α:Type}(R:Ty α)(F:Frz)(a:Option Addr)(n c:Nat)(xs:List α):Prop where
 len:n=xs.length
 cap:c=0∨c=R.size
 zero:c=0→n=0
 nil:a=none→n=0∧c=0
 spot:∀p,a=some p→p.spot=none
 el:∀(j:Nat) (x:α),xs[j]?=some x→∃b off ro cs l,a=some ⟨b,off,none⟩∧F b=some (.cells ro cs)∧partL cs (off+j*R.size) R.size=some l∧R.rel F l x
theorem Arr.mono{α:Type}{R:Ty α}{F G:Frz}{a:Option Addr}{n c:Nat}{xs:List α}(h:Arr R F a n c xs)(hF:Frz.le F G):Arr R G a n c xs:=
 ⟨h.len,h.cap,h.zero,h.nil,h.spot,fun j x hj=>
  let ⟨b,off,ro,cs,l,h1,h2,h3,h4⟩:=h.el j x hj
  ⟨b,off,ro,cs,l,h1,hF _ _ h2,h3,R.mono F G l x hF h4⟩⟩
theorem Arr.nil_{α:Type}(R:Ty α)(F:Frz):Arr R F none 0 0 ([]:List α):=
 ⟨rfl,.inl rfl,fun _=>rfl,fun _=>⟨rfl,rfl⟩,fun p h=>(by cases h),fun j x h=>(by simp at h)⟩
def tInt:Ty Int where
 size:=1
 rel:=fun _ l x=>l=[.int .i64 x]
 len:=fun _ _ _ h=>by rw[h];rfl
 one:=fun _ _ _ h=>by rw[h];rfl
 mono:=fun _ _ _ _ _ h=>h
def tBool:Ty Bool where
 size:=1
 rel:=fun _ l x=>l=[.bool x]
 len:=fun _ _ _ h=>by rw[h];rfl
 one:=fun _ _ _ h=>by rw[h];rfl
 mono:=fun _ _ _ _ _ h=>h
def tList{α:Type}(R:Ty α):Ty (List α) where
 size:=1
 rel:=fun F l xs=>∃a n c,l=[.slice a n c]∧Arr R F a n c xs
 len:=fun _ _ _ h=>by obtain⟨a,n,c,rfl,_⟩:=h;rfl
 one:=fun _ _ _ h=>by obtain⟨a,n,c,rfl,_⟩:=h;rfl
 mono:=fun _ _ _ _ hF h=>by obtain⟨a,n,c,e,h⟩:=h;exact⟨a,n,c,e,h.mono hF⟩
theorem partL_part{cs:List Value}{off n fo m:Nat}{l r:List Value}(h:partL cs off n=some l)(h2:partL l fo m=some r):partL cs (off+fo) m=some r:=by
 obtain⟨h4,h3⟩:=partL_some h;obtain⟨h6,h5⟩:=partL_some h2;have hr:(cs.drop (off+fo)).take m=r:=by
  have hm:fo+m≤n∨m=0:=by
   have:(l.drop fo).take m=r:=h6.symm;have h7:r.length≤l.length-fo:=by rw[h6];simp[List.length_take];omega
   omega
  rcases hm with hm | hm
  ·rw[h6,h4,List.drop_take,List.take_take,List.drop_drop,show min m (n-fo)=m by omega]
  ·subst hm;rw[h6];simp
 unfold partL;simp only[hr,h5];simp
theorem readA_inner{C:Ctx}{cs l:List Value}{off n fo t:Nat}{v:Value}(h:partL cs off n=some l)(q:readA C l t fo=some v):readA C cs t (off+fo)=some v:=by
 unfold readA at q ⊢;cases hu:C.und t with
 | none=>rw[hu] at q;cases q
 | some d=>
  rw[hu] at q;simp only at q ⊢;cases hg:isAggD d with
  | true=>
   rw[hg] at q;simp only[cond_true] at q ⊢;split at q
   ·rename_i m hm;cases hl2:partL l fo m with
    | none=>rw[hl2] at q;cases q
    | some l2=>
     rw[hl2] at q;rw[partL_part h hl2];exact q
   ·cases q
  | false=>
   rw[hg] at q;simp only[cond_false] at q ⊢;obtain⟨h4,h3⟩:=partL_some h;rw[h4] at q;rw[←q,List.getElem?_take];have hlt:fo<n:=by
    rcases Nat.lt_or_ge fo n with h | h
    ·exact h
    ·rw[List.getElem?_take,if_neg (by omega)] at q;cases q
   rw[if_pos hlt,List.getElem?_drop]
section
variable {C:Ctx}{T:RT}{n:Nat}{k:Kno}{F:Frz}{own:Own}{ops rest:List Oper}{o:Oper}{Q:Kno→Frz→Own→List Rec→Prop}{α:Type}{R:Ty α}
theorem WT.idx(hT:rowsOk C T=true){t e:Nat}{r:Row}{xo io:Operand}{a:Option Addr}{m c:Nat}{xs:List α}{x:α}{kd:IntKind}{j:Int}(hxs:Arr R F a m c xs)(hop:o.op=.indexAddr t xo io)(hw:wantK ops k o=some true){dst:Nat}(hdst:o.dst=some dst)(hn:Nat.blt dst n=true)
  (hx:evK C k xo=some (.slice a m c)) (hi:evK C k io=some (.int kd j)) (hr:rowOf T t=some r) (hd:r.d=.slice e) (hs:sizeT T e=some R.size) (h0:0≤j) (hj:xs[j.toNat]?=some x)
  (h:∀b off ro cs l,F b=some (.cells ro cs)→partL cs off R.size=some l→R.rel F l x→
   WT C n ops rest ((dst,(.pointer (some ⟨b,off,none⟩)))::k) F own (fun k2 F2 own2 rs=>Q k2 F2 own2 (⟨F,own,F,own,[]⟩::rs))):WT C n ops (o::rest) k F own Q:=by
 have hput:∀v,((dst,v)::k:Kno)=putK n k o.dst v:=fun v=>by rw[hdst,putK_some hn]
 simp only[hput] at h;obtain⟨b,off,ro,cs,l,rfl,h2,h3,h4⟩:=hxs.el _ _ hj;refine WT.still hw (by rw[hop];rfl) (fun h0' _=>?_) (h b (off+j.toNat*R.size) ro cs l h2 h3 h4);rw[hop];have hlt:j.toNat<xs.length:=(List.getElem?_eq_some_iff.1 hj).1;have hm:=hxs.len;simp only[opA,hx,hi,indexAddrA,und_slice hT hr hd,sizeT_ok hT hs];rw[if_pos ⟨h0,by omega⟩];rfl
theorem WT.loadEl(hT:rowsOk C T=true){t:TypeId}{ao:Operand}{b off fo m:Nat}{ro:Bool}{cs l:List Value}{v:Value}(hb:F b=some (.cells ro cs))(hp:partL cs off m=some l)(hop:o.op=.load t ao)(hw:wantK ops k o=some true){dst:Nat}(hdst:o.dst=some dst)(hn:Nat.blt dst n=true)
  (ha:evK C k ao=some (.pointer (some ⟨b,off+fo,none⟩))) (hr:readT T l t fo=some v)
  (h:WT C n ops rest ((dst,v)::k) F own (fun k2 F2 own2 rs=>Q k2 F2 own2 (⟨F,own,F,own,[b]⟩::rs))):WT C n ops (o::rest) k F own Q:=by
 have hput:∀v,((dst,v)::k:Kno)=putK n k o.dst v:=fun v=>by rw[hdst,putK_some hn]
 simp only[hput] at h;exact WT.loadFrz hop hw ha hb (readA_inner hp (readT_ok hT hr)) h
theorem Arr.slice{a:Option Addr}{m c:Nat}{xs:List α}(hxs:Arr R F a m c xs){lo hi:Nat}(hlo:lo≤hi)(hhi:hi≤m)(hT:rowsOk C T=true){t e:Nat}{r:Row}(hr:rowOf T t=some r)(hd:r.d=.slice e)(hs:sizeT T e=some R.size)
  (vlo vhi:Option Value) (h1:boundA vlo 0=some lo) (h2:boundA vhi m=some hi) :
  ∃a' c',(∀h,sliceA C h t (.slice a m c) vlo vhi none=some (.slice a' (hi-lo) c'))∧Arr R F a' (hi-lo) c' ((xs.take hi).drop lo):=by
 have hn:=hxs.len;cases a with
 | none=>
  obtain⟨rfl,rfl⟩:=hxs.nil rfl;have:hi=0:=by omega
  subst this;have:lo=0:=by omega
  subst this;refine⟨none,0,fun h=>?_,?_⟩
  ·have h3:boundA none 0=some 0:=rfl;simp only[sliceA,und_slice hT hr hd,sizeT_ok hT hs,h1,h2,h3];rfl
  ·have:xs=[]:=List.eq_nil_of_length_eq_zero (by omega);subst this;exact Arr.nil_ R F
 | some p=>
  obtain⟨b,off,sp⟩:=p;have:sp=none:=hxs.spot _ rfl;subst this;refine⟨some ⟨b,off+lo*R.size,none⟩,c,fun h=>?_,?_⟩
  ·have e1:Nat.ble lo hi=true:=Nat.ble_eq_true_of_le hlo;have e2:Nat.ble hi m=true:=Nat.ble_eq_true_of_le hhi;have e3:(c==0||c==R.size)=true:=by rcases hxs.cap with rfl | rfl<;>simp
   simp only[sliceA,und_slice hT hr hd,sizeT_ok hT hs,h1,h2,e1,e2,e3,Bool.and_self,cond_true]
  ·refine⟨by simp;omega,hxs.cap,fun h0=>(by have:=hxs.zero h0;omega),fun h0=>(by cases h0),fun p hp=>(by cases hp;rfl),fun j x hj=>?_⟩;rw[List.getElem?_drop,List.getElem?_take] at hj;split at hj
   ·obtain⟨b',off',ro,cs,l,g1,g2,g3,g4⟩:=hxs.el _ _ hj;cases g1;refine⟨b,off+lo*R.size,ro,cs,l,rfl,g2,?_,g4⟩;rw[show off+lo*R.size+j*R.size=off+(lo+j)*R.size by rw[Nat.add_mul];omega];exact g3
   ·cases hj
theorem WT.slice{t:TypeId}{xo:Operand}{lo hi:Option Operand}{x v:Value}{vlo vhi:Option Value}{l:List Nat}(hop:o.op=.slice t xo lo hi none)(hw:wantK ops k o=some true){dst:Nat}(hdst:o.dst=some dst)(hn:Nat.blt dst n=true)(hl:looksK (evK C k) o.op=some l)(hx:evK C k xo=some x)
  (h1:optA (evK C k) lo=some vlo) (h2:optA (evK C k) hi=some vhi) (hs:∀h,sliceA C h t x vlo vhi none=some v)
  (h:WT C n ops rest ((dst,v)::k) F own (fun k2 F2 own2 rs=>Q k2 F2 own2 (⟨F,own,F,own,l⟩::rs))):WT C n ops (o::rest) k F own Q:=by
 have hput:∀v,((dst,v)::k:Kno)=putK n k o.dst v:=fun v=>by rw[hdst,putK_some hn]
 simp only[hput] at h;refine WT.still hw hl (fun h0 _=>?_) h;rw[hop];have h3:optA (evK C k) none=some none:=rfl;simp only[opA,hx,h1,h2,h3,hs h0];rfl
theorem WT.callF{f:FuncId}{fn:Func}{as:Array Operand}{ts:Array TypeId}{args:List Value}{oin fr:Own}{Post:Frz→Value→Own→Prop}(hf:C.func f=some fn)(hb:fn.body.isSome=true)(hop:o.op=.call ⟨.value (.func f),as,ts⟩)
  (hw:wantK ops k o=some true) {dst:Nat} (hdst:o.dst=some dst) (hn:Nat.blt dst n=true) (hv:vals (evK C k) as.toList=some args) (spec:Spec C f args F oin Post) (hperm:own.Perm (oin++fr))
  (h:∀F' v oout,Frz.le F F'→Post F' v oout→WT C n ops rest ((dst,v)::k) F' (oout++fr) (fun k2 F2 own2 rs=>Q k2 F2 own2 (⟨F,own,F',oout++fr,[]⟩::rs))) :
  WT C n ops (o::rest) k F own Q:=by
 have hput:∀v,((dst,v)::k:Kno)=putK n k o.dst v:=fun v=>by rw[hdst,putK_some hn]
 simp only[hput] at h;refine WT.call hw (by rw[hop];rfl) (fun h0=>?_) spec hperm h;rw[hop];simp only[opA,evK,hv,callA,hf,hb,cond_true];simp
end
end Go.Abs
/-
 Slices that grow: a slot of one's own holds what has been appended.
-/
set_option linter.unusedVariables false
namespace Go.Abs
open Go
inductive Cells{α:Type}(R:Ty α)(F:Frz):List Value→List α→Prop
 | nil:Cells R F [] []
 | cons {l cs:List Value} {x:α} {xs:List α}:R.rel F l x→Cells R F cs xs→Cells R F (l++cs) (x::xs)
section
variable {α:Type}{R:Ty α}{F G:Frz}
theorem Cells.len{cs:List Value}{xs:List α}(h:Cells R F cs xs):cs.length=xs.length*R.size:=by
 induction h with
 | nil=>simp
 | cons h1 _ ih=>simp[ih,R.len _ _ _ h1,Nat.add_mul];omega
theorem Cells.one{cs:List Value}{xs:List α}(h:Cells R F cs xs):cs.all Go.Abs.one=true:=by
 induction h with
 | nil=>rfl
 | cons h1 _ ih=>rw[List.all_append,ih,R.one _ _ _ h1];rfl
theorem Cells.mono{cs:List Value}{xs:List α}(h:Cells R F cs xs)(hF:Frz.le F G):Cells R G cs xs:=by
 induction h with
 | nil=>exact .nil
 | cons h1 _ ih=>exact .cons (R.mono _ _ _ _ hF h1) ih
theorem Cells.append{cs ds:List Value}{xs ys:List α}(h:Cells R F cs xs)(h2:Cells R F ds ys):Cells R F (cs++ds) (xs++ys):=by
 induction h with
 | nil=>exact h2
 | cons h1 _ ih=>rw[List.append_assoc];exact .cons h1 ih
theorem Cells.single{l:List Value}{x:α}(h:R.rel F l x):Cells R F l [x]:=by
 have:=Cells.cons h (Cells.nil (R:=R) (F:=F));simpa using this
theorem Cells.at{cs:List Value}{xs:List α}(h:Cells R F cs xs):∀(j:Nat) (x:α),xs[j]?=some x→∃l,partL cs (j*R.size) R.size=some l∧R.rel F l x:=by
 induction h with
 | nil=>intro j x h;simp at h
 | cons h1 _ ih=>
  rename_i l cs y ys _;intro j x hj;have hl:=R.len _ _ _ h1;cases j with
  | zero=>
   simp at hj;subst hj;refine⟨l,?_,h1⟩;unfold partL;simp only[Nat.zero_mul,List.drop_zero];rw[←hl,List.take_left']
   ·simp
   ·rfl
  | succ j=>
   obtain⟨l2,h2,h3⟩:=ih j x (by simpa using hj);refine⟨l2,?_,h3⟩;unfold partL at h2 ⊢;have:(l++cs).drop ((j+1)*R.size)=cs.drop (j*R.size):=by
    rw[show (j+1)*R.size=l.length+j*R.size by rw[hl,Nat.add_mul];omega,←List.drop_drop,List.drop_left]
   rw[this];exact h2
structure Bld(R:Ty α)(F:Frz)(a:Option Addr)(n c:Nat)(B:List (Nat×Blk))(xs:List α):Prop where
 len:n=xs.length
 at_:(xs=[]∧a=none∧c=0∧B=[])∨∃i cs,a=some ⟨i,0,none⟩∧c=R.size∧B=[(i,.cells false cs)]∧Cells R F cs xs∧0<R.size
theorem Bld.nil_(R:Ty α)(F:Frz):Bld R F none 0 0 [] ([]:List α):=⟨rfl,.inl ⟨rfl,rfl,rfl,rfl⟩⟩
theorem Bld.mono{a:Option Addr}{n c:Nat}{B:List (Nat×Blk)}{xs:List α}(h:Bld R F a n c B xs)(hF:Frz.le F G):Bld R G a n c B xs:=
 ⟨h.len,h.at_.imp id fun ⟨i,cs,h1,h2,h3,h4,h5⟩=>⟨i,cs,h1,h2,h3,h4.mono hF,h5⟩⟩
theorem Bld.arr{a:Option Addr}{n c:Nat}{B:List (Nat×Blk)}{xs:List α}(h:Bld R F a n c B xs)(hG:Frz.le F G)(hB:∀i b,(i,b)∈B→G i=some b):Arr R G a n c xs:=by
 rcases h.at_ with ⟨rfl,rfl,rfl,rfl⟩ | ⟨i,cs,rfl,rfl,rfl,h4,h5⟩
 ·have:=h.len;simp at this;subst this;exact Arr.nil_ R G
 ·refine⟨h.len,.inr rfl,fun h0=>by omega,fun h0=>(by cases h0),fun p hp=>(by cases hp;rfl),fun j x hj=>?_⟩;obtain⟨l,h6,h7⟩:=(h4.mono hG).at j x hj;exact⟨i,0,false,cs,l,rfl,hB i _ (List.mem_cons_self ..),by rw[Nat.zero_add];exact h6,h7⟩
end
section
variable {C:Ctx}{T:RT}{n:Nat}{k:Kno}{F:Frz}{own:Own}{ops rest:List Oper}{o:Oper}{Q:Kno→Frz→Own→List Rec→Prop}{α:Type}{R:Ty α}
def bytesT(T:RT)(t:Nat):Option Nat:=match rowOf T t with | some r=>some r.bytes | none=>none
theorem bytesT_ok(hT:rowsOk C T=true){t m:Nat}(q:bytesT T t=some m):C.bytes t=some m:=by
 unfold bytesT at q;split at q
 ·rename_i r hr;cases q;exact(rowOf_ok hT hr).2.2.1
 ·cases q
theorem WT.append(hT:rowsOk C T=true)(p:Nat){B:List (Nat×Blk)}{a:Option Addr}{m c d by_:Nat}{xs ys:List α}{ds:List Value}{t e:Nat}{ts:List TypeId}{r:Row}{z x:Value}{xo so:Operand}
  (hb:Bld R F a m c B xs) (hp:own[p]?=some B) (hop:o.op=.call ⟨.builtin .append,⟨[so,xo]⟩,⟨t::ts⟩⟩) (hw:wantK ops k o=some true) {dst:Nat} (hdst:o.dst=some dst) (hn:Nat.blt dst n=true)
  (hs:evK C k so=some (.slice a m c)) (hx:evK C k xo=some x) (hr:rowOf T t=some r) (hd:r.d=.slice e) (hsz:sizeT T e=some R.size) (hz:zeroT T e=some z) (hby:bytesT T e=some by_)
  (hnew:∀h,St F own h→newsA C h e R.size ts.head? x=some (d,ds)) (hds:Cells R F ds ys) (hlen:d=ys.length) (hpos:0<d∧0<R.size∧0<by_) (hroom:(m+d)*by_≤140737488355328)
  (h:∀a' c' B',Bld R F a' (m+d) c' B' (xs++ys)→WT C n ops rest ((dst,(.slice a' (m+d) c'))::k) F (own.set p B') (fun k2 F2 own2 rs=>Q k2 F2 own2 (⟨F,own,F,own.set p B',[]⟩::rs))) :
  WT C n ops (o::rest) k F own Q:=by
 have hput:∀v,((dst,v)::k:Kno)=putK n k o.dst v:=fun v=>by rw[hdst,putK_some hn]
 simp only[hput] at h;have hl:looksK (evK C k) o.op=some []:=by rw[hop];rfl
 have hv:vals (evK C k) [so,xo]=some [.slice a m c,x]:=by simp[vals,hs,hx]
 have hcond:∀ln,ln=m→(!(ds.length==d*R.size&&ds.all one&&Nat.blt 0 R.size&&Nat.blt 0 by_&&Nat.ble ((ln+d)*by_) 140737488355328))=false:=by
  intro ln hln;subst hln;have h1:(ds.length==d*R.size)=true:=by rw[hds.len,hlen];simp
  have h2:Nat.blt 0 R.size=true:=Nat.ble_eq_true_of_le hpos.2.1;have h3:Nat.blt 0 by_=true:=Nat.ble_eq_true_of_le hpos.2.2;have h4:Nat.ble ((ln+d)*by_) 140737488355328=true:=Nat.ble_eq_true_of_le hroom;rw[h1,h2,h3,h4,hds.one];rfl
 have hd0:(d==0)=false:=by have:=hpos.1;cases d with | zero=>omega | succ d=>rfl
 have hlen':=hb.len;rcases hb.at_ with ⟨rfl,rfl,rfl,rfl⟩ | ⟨i,cs,rfl,rfl,rfl,h4,h5⟩
 ·simp at hlen';subst hlen';refine WT.fill (mk:=fun i=>.slice (some ⟨i,0,none⟩) (0+d) R.size) (b:=.cells false ds) p hp hw hl (fun h0 s0=>?_) (fun i hi=>h _ _ _ ⟨by simp;exact hlen,.inr ⟨i,ds,rfl,rfl,rfl,by simpa using hds,hpos.2.1⟩⟩);rw[hop];simp only[opA,hv,builtinA,appendA,und_slice hT hr hd,sizeT_ok hT hsz,zeroT_ok hT hz,bytesT_ok hT hby,hnew h0 s0,hcond 0 rfl,hd0,cond_false];simp
 ·refine WT.move (mk:=fun i=>.slice (some ⟨i,0,none⟩) (m+d) R.size) (b:=.cells false cs) (b':=.cells false (cs++ds)) p hp hw hl (fun h0 s0 hg=>?_) (fun j hj=>h _ _ _ ⟨by simp;omega,.inr ⟨j,cs++ds,rfl,rfl,rfl,h4.append hds,h5⟩⟩);rw[hop];have hc0:(R.size==0)=false:=by simp;omega
  have hcc:(!(R.size==R.size))=false:=by simp
  have hpart:partL cs 0 (m*R.size)=some cs:=by
   unfold partL;have:cs.length=m*R.size:=by rw[h4.len,hlen']
   simp[←this]
  simp only[opA,hv,builtinA,appendA,und_slice hT hr hd,sizeT_ok hT hsz,zeroT_ok hT hz,bytesT_ok hT hby,hnew h0 s0,hcond m rfl,hd0,cond_false,hc0,hcc,hg,hpart];rfl
theorem WT.buildSlice(hT:rowsOk C T=true){t e len sz:Nat}{ps:Array (Nat×Operand)}{vs:List (Nat×Value)}{r:Row}{z:Value}{cs:List Value}(hop:o.op=.buildSlice t len ps)(hw:wantK ops k o=some true){dst:Nat}(hdst:o.dst=some dst)(hn:Nat.blt dst n=true)
  (hps:partsA (evK C k) ps.toList=some vs) (hr:rowOf T t=some r) (hd:r.d=.slice e) (hsz:sizeT T e=some sz) (hz:zeroT T e=some z) (hok:(Nat.ble (len*sz) 16777216&&Nat.blt 0 sz)=true)
  (hfill:fillL (fun i=>some (i*sz,sz)) (rowsL z.cells.toList len) vs=some cs)
  (h:∀i,F i=none→WT C n ops rest ((dst,(.slice (some ⟨i,0,none⟩) len (bif len==0 then 0 else sz)))::k) F ([(i,.cells false cs)]::own) (fun k2 F2 own2 rs=>Q k2 F2 own2 (⟨F,own,F,[(i,.cells false cs)]::own,[]⟩::rs))) :
  WT C n ops (o::rest) k F own Q:=by
 have hput:∀v,((dst,v)::k:Kno)=putK n k o.dst v:=fun v=>by rw[hdst,putK_some hn]
 simp only[hput] at h;refine WT.new (mk:=fun i=>.slice (some ⟨i,0,none⟩) len (bif len==0 then 0 else sz)) hw (by rw[hop];rfl) (fun h0 _=>?_) h;rw[hop];simp only[opA,hps,buildSliceA,und_slice hT hr hd,sizeT_ok hT hsz,zeroT_ok hT hz,hok,cond_true,hfill];rfl
theorem news_own(hT:rowsOk C T=true){h:Heap}(s:St F own h)(q:Nat){i:Nat}{ro:Bool}{cs:List Value}{e sz len c t e':Nat}{r:Row}(hq:own[q]?=some [(i,.cells ro cs)])(hr:rowOf T t=some r)(hd:r.d=.slice e')
  (hl:cs.length=len*sz):newsA C h e sz (some t) (.slice (some ⟨i,0,none⟩) len c)=some (len,cs):=by
 have hb:h.get i=some (.cells ro cs):=s.has hq (List.mem_cons_self ..);have hpart:partL cs 0 (len*sz)=some cs:=by unfold partL;simp[←hl]
 by_cases hz:len=0
 ·subst hz;have:cs=[]:=List.eq_nil_of_length_eq_zero (by omega);subst this;simp[newsA,und_slice hT hr hd,plainNewsA,lenOfA,firstA]
 ·simp only[newsA,und_slice hT hr hd,plainNewsA,lenOfA,firstA,cellsAt,hb,hpart,show (len==0)=false by simpa using hz];rfl
theorem SubK.shadow{d:Nat}{v:Value}(hv:lk k d=some v):SubK ((d,v)::k) k:=by
 intro j u q;simp only[lk] at q;cases hb:Nat.beq d j with
 | true=>
  rw[hb] at q;have:=Nat.eq_of_beq_eq_true hb;subst this;cases q;exact hv
 | false=>rw[hb] at q;exact q
theorem WT.split(d:Nat){v:Bool}(hv:lk k d=some (.bool v))(h1:v=true→WT C n ops rest ((d,.bool true)::k) F own Q)(h2:v=false→WT C n ops rest ((d,.bool false)::k) F own Q):WT C n ops rest k F own Q:=by
 cases v with
 | true=>exact WT.weaken (SubK.shadow hv) (h1 rfl)
 | false=>exact WT.weaken (SubK.shadow hv) (h2 rfl)
theorem AW.split{c:Code}{A:Ex→Kno→Frz→Own→Prop}(d:Nat){v:Bool}(hv:lk k d=some (.bool v))(h1:v=true→AW C n c ((d,.bool true)::k) F own A)(h2:v=false→AW C n c ((d,.bool false)::k) F own A):AW C n c k F own A:=by
 cases v with
 | true=>exact AW.weaken (SubK.shadow hv) (h1 rfl)
 | false=>exact AW.weaken (SubK.shadow hv) (h2 rfl)
end
end Go.Abs
/-
 Loops: what changes in a round;loops over a range.
-/
set_option linter.unusedVariables false
namespace Go.Abs
open Go
theorem lk_mem:∀(k:Kno) (i:Nat) (v:Value),lk k i=some v→i∈k.map (·.1)
 | [],_,_,q=>by cases q
 | (j,u)::k,i,v,q=>by
  simp only[lk] at q;cases hb:Nat.beq j i with
  | true=>rw[Nat.eq_of_beq_eq_true hb];simp
  | false=>rw[hb] at q;exact List.mem_cons_of_mem _ (lk_mem k i v q)
theorem SubK.of_map{k2 k:Kno}(h:(k2.map (·.1)).map (lk k)=(k2.map (·.1)).map (lk k2)):SubK k2 k:=by
 intro i v q;have hm:=lk_mem k2 i v q;have:∀(l:List Nat),l.map (lk k)=l.map (lk k2)→∀i∈l,lk k i=lk k2 i:=by
  intro l
  induction l with
  | nil=>intro _ i hi;cases hi
  | cons a l ih=>
   intro he i hi;simp only[List.map_cons,List.cons.injEq] at he;rcases List.mem_cons.1 hi with rfl | hi
   ·exact he.1
   ·exact ih he.2 i hi
 rw[this _ h i hm,q]
theorem SubK.refl(k:Kno):SubK k k:=fun _ _ q=>q
theorem SubK.trans{a b c:Kno}(h1:SubK a b)(h2:SubK b c):SubK a c:=fun i v q=>h2 i v (h1 i v q)
def OwnLe(own2 own:Own):Prop:=∃l:List (Nat×Blk),l.Sublist own.flatten∧l.Perm own2.flatten
theorem OwnLe.refl(own:Own):OwnLe own own:=⟨_,List.Sublist.refl _,List.Perm.refl _⟩
theorem OwnLe.sub{own2 own:Own}(h:own2.Sublist own):OwnLe own2 own:=⟨_,sub_flatten h,List.Perm.refl _⟩
theorem OwnLe.flat{own2 own:Own}(h:own.flatten.Perm own2.flatten):OwnLe own2 own:=⟨_,List.Sublist.refl _,h⟩
theorem sublist_perm{α:Type}{l m m':List α}(h:l.Sublist m)(hp:m.Perm m'):∃l',l'.Sublist m'∧l.Perm l':=by
 induction hp generalizing l with
 | nil=>exact⟨l,h,List.Perm.refl _⟩
 | cons a _ ih=>
  cases h with
  | cons _ h=>
   obtain⟨l',h1,h2⟩:=ih h;exact⟨l',h1.cons a,h2⟩
  | cons_cons _ h=>
   obtain⟨l',h1,h2⟩:=ih h;exact⟨a::l',h1.cons_cons a,h2.cons a⟩
 | swap a b m=>
  cases h with
  | cons _ h=>
   cases h with
   | cons _ h=>exact⟨l,(h.cons b).cons a,List.Perm.refl _⟩
   | cons_cons _ h=>exact⟨_,(h.cons b).cons_cons a,List.Perm.refl _⟩
  | cons_cons _ h=>
   cases h with
   | cons _ h=>exact⟨_,(h.cons_cons b).cons a,List.Perm.refl _⟩
   | cons_cons _ h=>exact⟨_,(h.cons_cons b).cons_cons a,List.Perm.swap ..⟩
 | trans _ _ ih1 ih2=>
  obtain⟨l1,h1,h2⟩:=ih1 h;obtain⟨l2,h3,h4⟩:=ih2 h1;exact⟨l2,h3,h2.trans h4⟩
theorem OwnLe.trans{a b c:Own}(h1:OwnLe a b)(h2:OwnLe b c):OwnLe a c:=by
 obtain⟨l,h3,h4⟩:=h1;obtain⟨m,h5,h6⟩:=h2;obtain⟨l',h7,h8⟩:=sublist_perm h3 h6.symm;exact⟨l',h7.trans h5,h8.symm.trans h4⟩
theorem OwnLe.cons{a b:Own}(B:List (Nat×Blk))(h:OwnLe a b):OwnLe (B::a) (B::b):=by
 obtain⟨l,h1,h2⟩:=h;exact⟨B++l,by simp only[List.flatten_cons];exact(List.Sublist.refl B).append h1,by simp only[List.flatten_cons];exact h2.append_left B⟩
theorem OwnLe.skip{a b:Own}(B:List (Nat×Blk))(h:OwnLe a b):OwnLe a (B::b):=h.trans (OwnLe.sub (List.sublist_cons_self ..))
theorem St.le{F:Frz}{own own2:Own}{h:Heap}(s:St F own h)(ho:OwnLe own2 own):St F own2 h:=by
 obtain⟨l,h1,h2⟩:=ho;exact StF.perm (StF.sub s h1) h2
theorem St.back_to{F G:Frz}{own:Own}{h:Heap}(s:St G own h)(hF:Frz.le F G):St F own h:=
 ⟨fun i b q=>s.frz i b (hF i b q),fun p hp=>StF.has s p hp,fun p hp=>(by
  have:=StF.apart s p hp;cases hf:F p.1 with
  | none=>rfl
  | some b=>rw[hF _ _ hf] at this;cases this),StF.nodup s,s.wf⟩
section
variable {C:Ctx}{n:Nat}{k:Kno}{F:Frz}{own:Own}{A:Ex→Kno→Frz→Own→Prop}
theorem AW.le{c:Code}{own2:Own}(ho:OwnLe own2 own)(h:AW C n c k F own2 A):AW C n c k F own A:=fun e h0 hk' hs=>h e h0 hk' (hs.le ho)
theorem WT.le{ops rest:List Oper}{Q:Kno→Frz→Own→List Rec→Prop}{own2:Own}(ho:OwnLe own2 own)(h:WT C n ops rest k F own2 Q):WT C n ops rest k F own Q:=fun e h0 hk' hs=>h e h0 hk' (hs.le ho)
theorem AW.loopR{S:Type}(chg:S→Kno)(ow:S→Own)(P:S→Frz→Prop)(m:S→Nat){c:Code}(s0:S)
  (hk:SubK (chg s0++k) k) (ho:OwnLe (ow s0) own) (hP:P s0 F)
  (step:∀s F',Frz.le F F'→P s F'→AW C n c (chg s++k) F' (ow s) (thenQ (fun k' F'' own'=>∃s',m s'<m s∧SubK (chg s'++k) k'∧OwnLe (ow s') own'∧P s' F'') A)) :
  AW C n (.loop c) k F own A:=by
 have main:AW C n (.loop c) (chg s0++k) F (ow s0) A:=by
  refine AW.loop (fun s k' F' own'=>k'=chg s++k∧own'=ow s∧Frz.le F F'∧P s F') m ?_ s0 _ _ _ ⟨rfl,rfl,Frz.le.refl F,hP⟩;rintro s _ F' _ ⟨rfl,rfl,hF,hp⟩;intro e h0 hk1 hs1;obtain⟨x,e1,h1,k1,F1,own1,h2,h3,h4,h5,h6⟩:=step s F' hF hp e h0 hk1 hs1;cases x with
  | normal=>
   obtain⟨s',q1,q2,q3,q4⟩:=h6;exact⟨.normal,e1,h1,k1,F1,ow s',h2,h3,h4,h5.le q3,s',chg s'++k,ow s',q1,q2,List.Sublist.refl _,rfl,rfl,hF.trans h4,q4⟩
  | exit id=>exact⟨.exit id,e1,h1,k1,F1,own1,h2,h3,h4,h5,h6⟩
  | ret=>exact⟨.ret,e1,h1,k1,F1,own1,h2,h3,h4,h5,h6⟩
 exact AW.weaken hk (AW.le ho main)
def rangeQ{S:Type}(bid:Nat)(ti j:Nat)(chg:S→Kno)(k:Kno)(ow:S→Own)(P:Nat→S→Frz→Prop)(A:Ex→Kno→Frz→Own→Prop):Ex→Kno→Frz→Own→Prop
 | .normal,k',F',own'=>∃s',SubK ((ti,.int .i64 j)::(chg s'++k)) k'∧OwnLe (ow s') own'∧P (j+1) s' F'
 | .exit i,k',F',own'=>A (bif i==bid then .normal else .exit i) k' F' own'
 | .ret,k',F',own'=>A .ret k' F' own'
theorem AW.range{S:Type}(chg:S→Kno)(ow:S→Own)(P:Nat→S→Frz→Prop)(m:Nat)(s0:S)
  {bid bid' r1 r2 ti tl tc tj t1 t2 t3 t4:Nat} {body:Code} {o1 o2 o3:Oper}
  (ho1:o1.op=.binOp .lss t1 (.tmp ti) (.tmp tl) t2) (hd1:o1.dst=some tc) (hg1:o1.guard=none)
  (ho2:o2.op=.binOp .add t3 (.tmp ti) (.const (.int .i64 1)) t4) (hd2:o2.dst=some tj) (hg2:o2.guard=none)
  (ho3:o3.op=.move (.tmp tj)) (hd3:o3.dst=some ti) (hg3:o3.guard=none)
  (hm:m≤9223372036854775807) (hn:(Nat.blt ti n&&Nat.blt tc n&&Nat.blt tj n)=true)
  (hne:(Nat.beq ti tj||Nat.beq tc ti||Nat.beq tl ti)=false)
  (hl:∀s,lk (chg s++k) tl=some (.int .i64 m)) (hj:∀s,lk (chg s++k) tj=none)
  (hk:SubK ((ti,.int .i64 0)::(chg s0++k)) k) (ho:OwnLe (ow s0) own) (hP:P 0 s0 F)
  (step:∀j s F',Frz.le F F'→j<m→P j s F'→AW C n body ((tc,.bool true)::(ti,.int .i64 j)::(chg s++k)) F' (ow s) (blockQ bid' (rangeQ bid ti j chg k ow P A)))
  (done:∀s F',Frz.le F F'→P m s F'→A .normal ((tc,.bool false)::(ti,.int .i64 m)::(chg s++k)) F' (ow s)) :
  AW C n (.block bid (.loop (.seq (.region r1 ⟨[o1]⟩ false) (.seq (.cond (.tmp tc) .skip (.exit bid)) (.seq (.block bid' body) (.region r2 ⟨[o2,o3]⟩ false)))))) k F own A:=by
 simp only[Bool.and_eq_true] at hn;simp only[Bool.or_eq_false_iff] at hne;obtain⟨⟨hn1,hn2⟩,hn3⟩:=hn;obtain⟨⟨hne1,hne2⟩,hne3⟩:=hne;have put1:∀k v,putK n k (some ti) v=(ti,v)::k:=fun k v=>by simp only[putK,hn1,cond_true]
 have put2:∀k v,putK n k (some tc) v=(tc,v)::k:=fun k v=>by simp only[putK,hn2,cond_true]
 have put3:∀k v,putK n k (some tj) v=(tj,v)::k:=fun k v=>by simp only[putK,hn3,cond_true]
 have lt_i:Nat.beq ti ti=true:=Nat.beq_refl ti;have lt_c:Nat.beq tc tc=true:=Nat.beq_refl tc;have lt_j:Nat.beq tj tj=true:=Nat.beq_refl tj;have hne3':Nat.beq ti tl=false:=by
  cases h:Nat.beq ti tl with
  | false=>rfl
  | true=>rw[Nat.eq_of_beq_eq_true h,Nat.beq_refl] at hne3;cases hne3
 refine AW.block ?_;let st:Nat×S→Kno:=fun p=>(ti,.int .i64 p.1)::(chg p.2++k);have main:AW C n (.loop (.seq (.region r1 ⟨[o1]⟩ false) (.seq (.cond (.tmp tc) .skip (.exit bid)) (.seq (.block bid' body) (.region r2 ⟨[o2,o3]⟩ false))))) ((ti,.int .i64 0)::(chg s0++k)) F (ow s0) (blockQ bid A):=by
  refine AW.loop (fun (p:Nat×S) k' F' own'=>k'=st p∧own'=ow p.2∧Frz.le F F'∧p.1≤m∧P p.1 p.2 F') (fun p=>m-p.1) ?_ (0,s0) _ _ _ ⟨rfl,rfl,Frz.le.refl F,Nat.zero_le _,hP⟩;rintro⟨j,s⟩ _ F' _ ⟨rfl,rfl,hF,hjm,hp⟩;simp only at hjm hp;refine AW.seq (AW.reg ?_);refine WT.still (v:=.bool (decide ((j:Int)<m))) (l:=[]) (by simp only[wantK,hg1]) ?_ (fun h0 _=>?_) ?_
  ·rw[ho1];simp only[looksK,evK,st,lk,lt_i,cond_true,hne3',cond_false,hl];rfl
  ·rw[ho1];simp only[opA,evK,st,lk,lt_i,cond_true,hne3',cond_false,hl,binA,if_true,intBinA];rfl
  refine WT.nil ?_;show AW C n _ _ _ _ _;rw[hd1,put2];refine AW.seq (AW.cond (v:=decide ((j:Int)<m)) (by simp only[evK,lk,lt_c,cond_true]) (fun hc=>?_) (fun hc=>?_))
  ·have hc:j<m:=by have:=of_decide_eq_true hc;omega
   refine AW.skip ?_;show AW C n _ _ _ _ _;refine AW.seq (AW.block ?_);have hd:decide ((j:Int)<m)=true:=by simp;omega
   rw[hd];refine AW.mono (step j s F' hF hc hp) ?_;intro x k' F'' own' hF'' hx;have fin:rangeQ bid ti j chg k ow P A .normal k' F'' own'→AW C n (.region r2 ⟨[o2,o3]⟩ false) k' F'' own' (thenQ (fun k' F' own'=>∃(j_1:Nat×S),∃k2 own2,m-j_1.1<m-j∧SubK k2 k'∧own2.Sublist own'∧k2=st j_1∧own2=ow j_1.2∧Frz.le F F'∧j_1.1≤m∧P j_1.1 j_1.2 F') (blockQ bid A)):=by
    rintro⟨s',q1,q2,q3⟩;refine AW.weaken q1 (AW.le q2 (AW.reg ?_));refine WT.add (x:=j) (y:=1) ho2 (by simp only[wantK,hg2]) (by simp only[evK,lk,lt_i,cond_true]) (by simp only[evK,plain,cond_true]) (by omega) ?_;rw[hd2,put3];refine WT.still (v:=.int .i64 (j+1)) (l:=[]) (by simp only[wantK,hg3]) ?_ (fun h0 _=>?_) ?_
    ·rw[ho3];rfl
    ·rw[ho3];simp only[opA,evK,lk,lt_j,cond_true];rfl
    rw[hd3,put1];refine WT.nil ?_;refine⟨(j+1,s'),st (j+1,s'),ow s',by simp only;omega,?_,List.Sublist.refl _,rfl,rfl,hF.trans hF'',by simp only;omega,q3⟩;intro i v q;simp only[st,lk] at q ⊢;cases hb:Nat.beq ti i with
    | true=>rw[hb] at q;simpa using q
    | false=>
     rw[hb] at q;simp only[cond_false] at q ⊢;cases hb2:Nat.beq tj i with
     | true=>
      have:=Nat.eq_of_beq_eq_true hb2;subst this;rw[hj] at q;cases q
     | false=>exact q
   cases x with
   | normal=>exact fin hx
   | ret=>exact hx
   | exit i=>
    simp only[blockQ] at hx ⊢;cases hi:(i==bid') with
    | true=>rw[hi] at hx;exact fin hx
    | false=>rw[hi] at hx;exact hx
  ·have hc:j=m:=by have:=of_decide_eq_false hc;omega
   subst hc;have hd:decide ((j:Int)<j)=false:=by simp
   rw[hd];refine AW.exit ?_;simp only[thenQ,blockQ];have:(bid==bid)=true:=by simp
   rw[this];exact done s F' hF hp
 exact AW.weaken hk (AW.le ho main)
end
end Go.Abs
/-
 More rules: elements by their place,equality of structs,bits.
-/
set_option linter.unusedVariables false
namespace Go.Abs
open Go
def eqFieldsT(T:RT)(eq:TypeId→Value→Value→Option Bool):List (Nat×Nat)→List Value→List Value→Option Bool
 | [],_,_=>some true
 | (off,ft)::fs,xs,ys=>
  match readT T xs ft off,readT T ys ft off with
  | some a,some b=>match eq ft a b,eqFieldsT T eq fs xs ys with
   | some p,some q=>some (p&&q)
   | _,_=>none
  | _,_=>none
def eqT(C:Ctx)(T:RT):Nat→TypeId→Value→Value→Option Bool
 | 0,_,_,_=>none
 | n+1,t,x,y=>
  match rowOf T t with
  | some r=>match r.d,x,y with
   | .struct fs,.agg ⟨xs⟩,.agg ⟨ys⟩=>bif C.flat t then eqFieldsT T (eqT C T n) fs xs ys else none
   | .int _,.int k a,.int k' b=>if k=k' then some (a==b) else none
   | .string,.string a,.string b=>some (a==b)
   | .bool,.bool a,.bool b=>some (a==b)
   | _,_,_=>none
  | none=>none
section
variable {C:Ctx}{T:RT}(hT:rowsOk C T=true)
include hT
theorem eqFieldsT_ok{eqt eqa:TypeId→Value→Value→Option Bool}(he:∀t x y b,eqt t x y=some b→eqa t x y=some b):∀(fs:List Field) (xs ys:List Value) (b:Bool),
  eqFieldsT T eqt (fs.map fun f=>(f.offset,f.type)) xs ys=some b→eqFields C eqa fs xs ys=some b
 | [],xs,ys,b,q=>q
 | f::fs,xs,ys,b,q=>by
  simp only[List.map_cons,eqFieldsT] at q;split at q
  ·rename_i u v hu hv;split at q
   ·rename_i p r hp hr;cases q;unfold eqFields;rw[readT_ok hT hu,readT_ok hT hv];simp only[he _ _ _ _ hp];cases p with
    | true=>simpa using eqFieldsT_ok he fs xs ys r hr
    | false=>rfl
   ·cases q
  ·cases q
theorem und_string{t:Nat}{r:Row}(q:rowOf T t=some r)(hd:r.d=.string):C.und t=some .string:=by
 obtain⟨_,_,_,_,d,h4,h5⟩:=rowOf_ok hT q;rw[hd] at h5;cases d<;>first | (cases h5;done) | skip
 rw[h4]
theorem und_bool{t:Nat}{r:Row}(q:rowOf T t=some r)(hd:r.d=.bool):C.und t=some .bool:=by
 obtain⟨_,_,_,_,d,h4,h5⟩:=rowOf_ok hT q;rw[hd] at h5;cases d<;>first | (cases h5;done) | skip
 rw[h4]
theorem eqT_ok:∀(n:Nat) (t:TypeId) (x y:Value) (b:Bool),eqT C T n t x y=some b→eqA C n t x y=some b
 | 0,_,_,_,_,q=>by cases q
 | n+1,t,x,y,b,q=>by
  unfold eqT at q;split at q
  ·rename_i r hr;split at q
   ·rename_i fs xs ys hd;obtain⟨fs',hu,hfs⟩:=und_struct hT hr hd;cases hf:C.flat t with
    | false=>rw[hf] at q;cases q
    | true=>
     rw[hf] at q;simp only[cond_true] at q;unfold eqA;simp only[hu,hf,cond_true];rw[hfs] at q;exact eqFieldsT_ok hT (eqT_ok n) _ _ _ _ q
   ·rename_i kd k a k' b' hd;have hu:=und_int hT hr hd;unfold eqA;simp only[hu,eqBasic];exact q
   ·rename_i a b' hd;have hu:=und_string hT hr hd;unfold eqA;simp only[hu,eqBasic];rw[←q]
   ·rename_i a b' hd;have hu:=und_bool hT hr hd;unfold eqA;simp only[hu,eqBasic];rw[←q]
   ·cases q
  ·cases q
theorem equalT_ok{h:Heap}{t:TypeId}{xs ys:List Value}{b:Bool}(q:eqT C T 8 t (.agg ⟨xs⟩) (.agg ⟨ys⟩)=some b):equalA C h t (.agg ⟨xs⟩) (.agg ⟨ys⟩)=some b:=by
 have h1:=eqT_ok hT 8 t _ _ b q;unfold eqT at q;split at q
 ·rename_i r hr;split at q
  ·rename_i fs _ _ hd _ _;obtain⟨fs',hu,hfs⟩:=und_struct hT hr hd;unfold equalA;rw[hu];exact h1
  ·rename_i h2 h3;cases h2
  ·rename_i h2 h3;cases h2
  ·rename_i h2 h3;cases h2
  ·cases q
 ·cases q
omit hT in
theorem flat_of_eqT{t:TypeId}{xs ys:List Value}{b:Bool}(q:eqT C T 8 t (.agg ⟨xs⟩) (.agg ⟨ys⟩)=some b):C.flat t=true:=by
 unfold eqT at q;split at q
 ·split at q
  ·cases hf:C.flat t with
   | false=>rw[hf] at q;cases q
   | true=>rfl
  ·rename_i h2 h3;cases h2
  ·rename_i h2 h3;cases h2
  ·rename_i h2 h3;cases h2
  ·cases q
 ·cases q
end
section
variable {C:Ctx}{T:RT}{n:Nat}{k:Kno}{F:Frz}{own:Own}{ops rest:List Oper}{o:Oper}{Q:Kno→Frz→Own→List Rec→Prop}{α:Type}{R:Ty α}
theorem WT.eqS(hT:rowsOk C T=true){t ty:TypeId}{xo yo:Operand}{xs ys:List Value}{b:Bool}(hop:o.op=.binOp .eql t xo yo ty)(hw:wantK ops k o=some true){dst:Nat}(hdst:o.dst=some dst)(hn:Nat.blt dst n=true)
  (hx:evK C k xo=some (.agg ⟨xs⟩)) (hy:evK C k yo=some (.agg ⟨ys⟩)) (he:eqT C T 8 t (.agg ⟨xs⟩) (.agg ⟨ys⟩)=some b)
  (h:WT C n ops rest ((dst,(.bool b))::k) F own (fun k2 F2 own2 rs=>Q k2 F2 own2 (⟨F,own,F,own,[]⟩::rs))):WT C n ops (o::rest) k F own Q:=by
 have hput:∀v,((dst,v)::k:Kno)=putK n k o.dst v:=fun v=>by rw[hdst,putK_some hn]
 simp only[hput] at h;refine WT.still hw (by rw[hop];simp only[looksK,hx,hy];rfl) (fun h0 _=>?_) h;rw[hop];simp only[opA,hx,hy,binA,eqLets,flat_of_eqT he,equalT_ok hT he,cond_true,Option.map_some]
theorem WT.neS(hT:rowsOk C T=true){t ty:TypeId}{xo yo:Operand}{xs ys:List Value}{b:Bool}(hop:o.op=.binOp .neq t xo yo ty)(hw:wantK ops k o=some true){dst:Nat}(hdst:o.dst=some dst)(hn:Nat.blt dst n=true)
  (hx:evK C k xo=some (.agg ⟨xs⟩)) (hy:evK C k yo=some (.agg ⟨ys⟩)) (he:eqT C T 8 t (.agg ⟨xs⟩) (.agg ⟨ys⟩)=some b)
  (h:WT C n ops rest ((dst,(.bool !b))::k) F own (fun k2 F2 own2 rs=>Q k2 F2 own2 (⟨F,own,F,own,[]⟩::rs))):WT C n ops (o::rest) k F own Q:=by
 have hput:∀v,((dst,v)::k:Kno)=putK n k o.dst v:=fun v=>by rw[hdst,putK_some hn]
 simp only[hput] at h;refine WT.still hw (by rw[hop];simp only[looksK,hx,hy];rfl) (fun h0 _=>?_) h;rw[hop];simp only[opA,hx,hy,binA,eqLets,flat_of_eqT he,equalT_ok hT he,cond_true,Option.map_some]
theorem WT.idxL(hT:rowsOk C T=true){t e:Nat}{r:Row}{xo io:Operand}{a:Option Addr}{m c:Nat}{xs:List α}{kd:IntKind}{j:Nat}(hxs:Arr R F a m c xs)(hop:o.op=.indexAddr t xo io)(hw:wantK ops k o=some true){dst:Nat}(hdst:o.dst=some dst)(hn:Nat.blt dst n=true)
  (hx:evK C k xo=some (.slice a m c)) (hi:evK C k io=some (.int kd (j:Nat))) (hr:rowOf T t=some r) (hd:r.d=.slice e) (hs:sizeT T e=some R.size) (hj:j<xs.length)
  (h:∀x,xs[j]?=some x→∀b off ro cs l,F b=some (.cells ro cs)→partL cs off R.size=some l→R.rel F l x→
   WT C n ops rest ((dst,(.pointer (some ⟨b,off,none⟩)))::k) F own (fun k2 F2 own2 rs=>Q k2 F2 own2 (⟨F,own,F,own,[]⟩::rs))):WT C n ops (o::rest) k F own Q:=
 WT.idx hT (x:=xs[j]) (j:=(j:Int)) hxs hop hw hdst hn hx hi hr hd hs (Int.natCast_nonneg j) (by simp[hj]) (h _ (List.getElem?_eq_getElem hj))
theorem WT.mulT{t ty:TypeId}{xo yo:Operand}{x y:Int}(hop:o.op=.binOp .mul t xo yo ty)(hw:wantK ops k o=some true){dst:Nat}(hdst:o.dst=some dst)(hn:Nat.blt dst n=true)(hx:evK C k xo=some (.int .i64 x))(hy:evK C k yo=some (.int .i64 y))
  (hr:-9223372036854775808≤x*y∧x*y≤9223372036854775807)
  (h:WT C n ops rest ((dst,.int .i64 (x*y))::k) F own (fun k2 F2 own2 rs=>Q k2 F2 own2 (⟨F,own,F,own,[]⟩::rs))):WT C n ops (o::rest) k F own Q:=
 WT.mul hop hw hx hy hr (by rw[hdst,putK_some hn];exact h)
theorem WT.remT{t ty:TypeId}{xo yo:Operand}{x y:Int}(hop:o.op=.binOp .rem t xo yo ty)(hw:wantK ops k o=some true){dst:Nat}(hdst:o.dst=some dst)(hn:Nat.blt dst n=true)(hx:evK C k xo=some (.int .i64 x))(hy:evK C k yo=some (.int .i64 y))
  (hr:y≠0)
  (h:WT C n ops rest ((dst,.int .i64 (x.tmod y))::k) F own (fun k2 F2 own2 rs=>Q k2 F2 own2 (⟨F,own,F,own,[]⟩::rs))):WT C n ops (o::rest) k F own Q:=
 WT.rem hop hw hx hy hr (by rw[hdst,putK_some hn];exact h)
theorem wrapU32{x:Int}(h:0≤x∧x<4294967296):IntKind.u32.wrap x=x:=by
 have hs:IntKind.u32.signed=false:=rfl;have hbits:IntKind.u32.bits=32:=rfl;simp only[IntKind.wrap,hs,hbits,Bool.false_and];have:(2:Int) ^ 32=4294967296:=rfl;rw[this];simp;omega
theorem bv32{x:Nat}(h:x<4294967296):(BitVec.ofInt 32 (x:Int)).toNat=x:=by
 simp;omega
theorem or32{x y:Nat}(hx:x<4294967296)(hy:y<4294967296):IntKind.u32.wrap ((BitVec.ofInt IntKind.u32.bits (x:Int) ||| BitVec.ofInt IntKind.u32.bits (y:Int)).toNat:Int)=((x ||| y:Nat):Int):=by
 have hb:IntKind.u32.bits=32:=rfl;have h0:x ||| y<4294967296:=Nat.or_lt_two_pow (n:=32) hx hy
 rw[hb,BitVec.toNat_or,bv32 hx,bv32 hy,wrapU32 (by omega)]
theorem and32{x y:Nat}(hx:x<4294967296)(hy:y<4294967296):IntKind.u32.wrap ((BitVec.ofInt IntKind.u32.bits (x:Int) &&& BitVec.ofInt IntKind.u32.bits (y:Int)).toNat:Int)=((x &&& y:Nat):Int):=by
 have hb:IntKind.u32.bits=32:=rfl;have h0:x &&& y<4294967296:=Nat.and_lt_two_pow (n:=32) x hy;rw[hb,BitVec.toNat_and,bv32 hx,bv32 hy,wrapU32 (by omega)]
def andNot(x y:Nat):Nat:=x &&& (4294967295-y)
theorem andNot32{x y:Nat}(hx:x<4294967296)(hy:y<4294967296):IntKind.u32.wrap ((BitVec.ofInt IntKind.u32.bits (x:Int) &&& ~~~BitVec.ofInt IntKind.u32.bits (y:Int)).toNat:Int)=((andNot x y:Nat):Int):=by
 have hb:IntKind.u32.bits=32:=rfl;have h1:(~~~BitVec.ofInt 32 (y:Int)).toNat=4294967295-y:=by rw[BitVec.toNat_not,bv32 hy]
 have h0:andNot x y<4294967296:=by unfold andNot;exact Nat.and_lt_two_pow (n:=32) x (by omega)
 rw[hb,BitVec.toNat_and,h1,bv32 hx];exact wrapU32 (by unfold andNot at h0;omega)
theorem testBit_andNot{x y:Nat}(hx:x<4294967296)(hy:y<4294967296)(j:Nat):(andNot x y).testBit j=(x.testBit j&&!y.testBit j):=by
 unfold andNot;have h2:(4294967295-y).testBit j=(decide (j<32)&&!y.testBit j):=by
  have:=Nat.testBit_two_pow_sub_succ (n:=32) (x:=y) hy j;rw[←this];congr 1;omega
 rw[Nat.testBit_and,h2];rcases Nat.lt_or_ge j 32 with h | h
 ·simp[h]
 ·have:x.testBit j=false:=Nat.testBit_lt_two_pow (Nat.lt_of_lt_of_le hx (Nat.pow_le_pow_right (by decide) h:2 ^ 32≤2 ^ j));simp[this]
theorem andNot_zero{x y:Nat}(hx:x<4294967296)(hy:y<4294967296):andNot x y=0↔∀j,x.testBit j=true→y.testBit j=true:=by
 constructor
 ·intro h j hj;have:=testBit_andNot hx hy j;rw[h,hj] at this;simpa using this.symm
 ·intro h;apply Nat.eq_of_testBit_eq;intro j;rw[testBit_andNot hx hy];cases hj:x.testBit j with
  | false=>simp
  | true=>simp[h j hj]
theorem WT.binU{op:BinOp}{t ty:TypeId}{xo yo:Operand}{x y r:Nat}(hop:o.op=.binOp op t xo yo ty)(hw:wantK ops k o=some true){dst:Nat}(hdst:o.dst=some dst)(hn:Nat.blt dst n=true)(hx:evK C k xo=some (.int .u32 x))(hy:evK C k yo=some (.int .u32 y))
  (hr:intBinA op .u32 x y=some (.int .u32 (r:Nat))) (hsh:op≠.shl∧op≠.shr)
  (h:WT C n ops rest ((dst,(.int .u32 (r:Nat)))::k) F own (fun k2 F2 own2 rs=>Q k2 F2 own2 (⟨F,own,F,own,[]⟩::rs))):WT C n ops (o::rest) k F own Q:=by
 have hput:∀v,((dst,v)::k:Kno)=putK n k o.dst v:=fun v=>by rw[hdst,putK_some hn]
 simp only[hput] at h;refine WT.bin hop hw hx hy ?_ hsh h;cases op<;>first | exact absurd rfl hsh.1 | exact absurd rfl hsh.2 | (simp only[binA,if_true];exact hr)
theorem WT.or32{t ty:TypeId}{xo yo:Operand}{x y:Nat}(hop:o.op=.binOp .or t xo yo ty)(hw:wantK ops k o=some true){dst:Nat}(hdst:o.dst=some dst)(hn:Nat.blt dst n=true)(hx:evK C k xo=some (.int .u32 x))(hy:evK C k yo=some (.int .u32 y))(bx:x<4294967296)(by_:y<4294967296)
  (h:WT C n ops rest ((dst,(.int .u32 ((x ||| y:Nat):Int)))::k) F own (fun k2 F2 own2 rs=>Q k2 F2 own2 (⟨F,own,F,own,[]⟩::rs))):WT C n ops (o::rest) k F own Q:=
 WT.binU hop hw hdst hn hx hy (by simp only[intBinA,Go.Abs.or32 bx by_]) (by simp) h
theorem WT.and32{t ty:TypeId}{xo yo:Operand}{x y:Nat}(hop:o.op=.binOp .and t xo yo ty)(hw:wantK ops k o=some true){dst:Nat}(hdst:o.dst=some dst)(hn:Nat.blt dst n=true)(hx:evK C k xo=some (.int .u32 x))(hy:evK C k yo=some (.int .u32 y))(bx:x<4294967296)(by_:y<4294967296)
  (h:WT C n ops rest ((dst,(.int .u32 ((x &&& y:Nat):Int)))::k) F own (fun k2 F2 own2 rs=>Q k2 F2 own2 (⟨F,own,F,own,[]⟩::rs))):WT C n ops (o::rest) k F own Q:=
 WT.binU hop hw hdst hn hx hy (by simp only[intBinA,Go.Abs.and32 bx by_]) (by simp) h
theorem WT.andNot32{t ty:TypeId}{xo yo:Operand}{x y:Nat}(hop:o.op=.binOp .andNot t xo yo ty)(hw:wantK ops k o=some true){dst:Nat}(hdst:o.dst=some dst)(hn:Nat.blt dst n=true)(hx:evK C k xo=some (.int .u32 x))(hy:evK C k yo=some (.int .u32 y))(bx:x<4294967296)(by_:y<4294967296)
  (h:WT C n ops rest ((dst,(.int .u32 ((andNot x y:Nat):Int)))::k) F own (fun k2 F2 own2 rs=>Q k2 F2 own2 (⟨F,own,F,own,[]⟩::rs))):WT C n ops (o::rest) k F own Q:=
 WT.binU hop hw hdst hn hx hy (by simp only[intBinA,Go.Abs.andNot32 bx by_]) (by simp) h
theorem WT.shiftU{op:BinOp}{t ty:TypeId}{xo yo:Operand}{x y:Nat}{kd:IntKind}{r:Nat}(hop:o.op=.binOp op t xo yo ty)(hw:wantK ops k o=some true){dst:Nat}(hdst:o.dst=some dst)(hn:Nat.blt dst n=true)(hx:evK C k xo=some (.int .u32 x))(hy:evK C k yo=some (.int kd (y:Nat)))
  (hr:shiftA op .u32 x y=some (.int .u32 (r:Nat))) (hsh:op=.shl∨op=.shr)
  (h:WT C n ops rest ((dst,(.int .u32 (r:Nat)))::k) F own (fun k2 F2 own2 rs=>Q k2 F2 own2 (⟨F,own,F,own,[]⟩::rs))):WT C n ops (o::rest) k F own Q:=by
 have hput:∀v,((dst,v)::k:Kno)=putK n k o.dst v:=fun v=>by rw[hdst,putK_some hn]
 simp only[hput] at h;refine WT.still (l:=[]) hw (by rw[hop];simp only[looksK,hx,hy];rfl) (fun h0 _=>?_) h;rw[hop];rcases hsh with rfl | rfl
 ·simp only[opA,hx,hy,binA,hr];rfl
 ·simp only[opA,hx,hy,binA,hr];rfl
theorem WT.shl32{t ty:TypeId}{xo yo:Operand}{x y:Nat}{kd:IntKind}(hop:o.op=.binOp .shl t xo yo ty)(hw:wantK ops k o=some true){dst:Nat}(hdst:o.dst=some dst)(hn:Nat.blt dst n=true)(hx:evK C k xo=some (.int .u32 x))(hy:evK C k yo=some (.int kd (y:Nat)))(hy2:y≤32)(hxy:x*2 ^ y<4294967296)
  (h:WT C n ops rest ((dst,(.int .u32 ((x*2 ^ y:Nat):Int)))::k) F own (fun k2 F2 own2 rs=>Q k2 F2 own2 (⟨F,own,F,own,[]⟩::rs))):WT C n ops (o::rest) k F own Q:=
 WT.shiftU hop hw hdst hn hx hy (by
  have hb:IntKind.u32.bits=32:=rfl;unfold shiftA;rw[if_neg (by omega)];simp only[hb,Int.toNat_natCast,Nat.min_eq_left hy2];rw[wrapU32]
  ·congr 2
  ·have:(x:Int)*2 ^ y=((x*2 ^ y:Nat):Int):=by rw[Int.natCast_mul,Int.natCast_pow];rfl
   rw[this];omega) (.inl rfl) h
theorem WT.shr32{t ty:TypeId}{xo yo:Operand}{x y:Nat}{kd:IntKind}(hop:o.op=.binOp .shr t xo yo ty)(hw:wantK ops k o=some true){dst:Nat}(hdst:o.dst=some dst)(hn:Nat.blt dst n=true)(hx:evK C k xo=some (.int .u32 x))(hy:evK C k yo=some (.int kd (y:Nat)))(hy2:y≤32)
  (h:WT C n ops rest ((dst,(.int .u32 ((x / 2 ^ y:Nat):Int)))::k) F own (fun k2 F2 own2 rs=>Q k2 F2 own2 (⟨F,own,F,own,[]⟩::rs))):WT C n ops (o::rest) k F own Q:=
 WT.shiftU hop hw hdst hn hx hy (by
  have hb:IntKind.u32.bits=32:=rfl;unfold shiftA;rw[if_neg (by omega)];simp only[hb,Int.toNat_natCast,Nat.min_eq_left hy2];congr 2;rw[Int.natCast_ediv,Int.natCast_pow];exact Int.fdiv_eq_ediv_of_nonneg _ (Int.pow_nonneg (by decide))) (.inr rfl) h
theorem WT.conv(hT:rowsOk C T=true){s d:TypeId}{xo:Operand}{r r2:Row}{k1 k2:IntKind}{x:Int}(hop:o.op=.convert s d xo)(hw:wantK ops k o=some true){dst:Nat}(hdst:o.dst=some dst)(hn:Nat.blt dst n=true)(hx:evK C k xo=some (.int k1 x))(hs:rowOf T s=some r2)(hr:rowOf T d=some r)(hd:r.d=.int k2)(hf:k2.wrap x=x)
  (h:WT C n ops rest ((dst,(.int k2 x))::k) F own (fun k2 F2 own2 rs=>Q k2 F2 own2 (⟨F,own,F,own,[]⟩::rs))):WT C n ops (o::rest) k F own Q:=by
 have hput:∀v,((dst,v)::k:Kno)=putK n k o.dst v:=fun v=>by rw[hdst,putK_some hn]
 simp only[hput] at h;refine WT.still (l:=[]) hw (by rw[hop];rfl) (fun h0 _=>?_) h;obtain⟨_,_,_,_,d2,h4,h5⟩:=rowOf_ok hT hs;rw[hop];simp only[opA,hx,convertA,h4,und_int hT hr hd,hf];rfl
end
end Go.Abs
/-
 Grammars as data,and how they lie.
-/
set_option linter.unusedVariables false
namespace Go.Abs
open Go
structure Sym where
 term:Bool
 n:Nat
deriving DecidableEq
structure Rule where
 left:Nat
 right:List Sym
deriving DecidableEq
structure Gram where
 terms:Nat
 nons:Nat
 start:Nat
 rules:List Rule
def tNat:Ty Nat where
 size:=1
 rel:=fun _ l x=>l=[.int .i64 x]
 len:=fun _ _ _ h=>by rw[h];rfl
 one:=fun _ _ _ h=>by rw[h];rfl
 mono:=fun _ _ _ _ _ h=>h
def tSym:Ty Sym where
 size:=2
 rel:=fun _ l x=>l=[.bool x.term,.int .i64 x.n]
 len:=fun _ _ _ h=>by rw[h];rfl
 one:=fun _ _ _ h=>by rw[h];rfl
 mono:=fun _ _ _ _ _ h=>h
def tRule:Ty Rule where
 size:=2
 rel:=fun F l x=>∃a n c,l=[.int .i64 x.left,.slice a n c]∧Arr tSym F a n c x.right
 len:=fun _ _ _ h=>by obtain⟨a,n,c,rfl,_⟩:=h;rfl
 one:=fun _ _ _ h=>by obtain⟨a,n,c,rfl,_⟩:=h;rfl
 mono:=fun _ _ _ _ hF h=>by obtain⟨a,n,c,e,h⟩:=h;exact⟨a,n,c,e,h.mono hF⟩
def GramV(F:Frz)(v:Value)(g:Gram):Prop:=∃a n c,v=.agg ⟨[.int .i64 g.terms,.int .i64 g.nons,.int .i64 g.start,.slice a n c]⟩∧Arr tRule F a n c g.rules
theorem GramV.mono{F G:Frz}{v:Value}{g:Gram}(h:GramV F v g)(hF:Frz.le F G):GramV G v g:=by
 obtain⟨a,n,c,e,h⟩:=h;exact⟨a,n,c,e,h.mono hF⟩
theorem sym_eq(x y:Sym):((x.term==y.term)&&(((x.n:Int)==(y.n:Int))&&true))=decide (x=y):=by
 obtain⟨a,n⟩:=x;obtain⟨b,m⟩:=y;rw[Bool.eq_iff_iff];simp[Int.natCast_inj]
end Go.Abs
namespace Go.Abs
open Go
section
variable {C:Ctx}{n:Nat}{k:Kno}{F:Frz}{own:Own}{ops rest:List Oper}{o:Oper}{Q:Kno→Frz→Own→List Rec→Prop}
theorem WT.skipT{dst:Nat}{l:List Nat}(hw:wantK ops k o=some false)(hdst:o.dst=some dst)(hn:Nat.blt dst n=true)(hl:looksK (evK C k) o.op=some l)
  (h:WT C n ops rest ((dst,undefA)::k) F own (fun k2 F2 own2 rs=>Q k2 F2 own2 (⟨F,own,F,own,l⟩::rs))):WT C n ops (o::rest) k F own Q:=
 WT.skip hw hl (by rw[hdst,putK_some hn];exact h)
theorem WT.skipN{l:List Nat}(hw:wantK ops k o=some false)(hdst:o.dst=none)(hl:looksK (evK C k) o.op=some l)
  (h:WT C n ops rest k F own (fun k2 F2 own2 rs=>Q k2 F2 own2 (⟨F,own,F,own,l⟩::rs))):WT C n ops (o::rest) k F own Q:=
 WT.skip hw hl (by rw[hdst];exact h)
end
end Go.Abs
namespace Go.Abs
open Go
def kindOf:Op→Nat
 | .load _ _=>1
 | .store _ _ _=>2
 | .binOp _ _ _ _ _=>3
 | .indexAddr _ _ _=>4
 | _=>0
section
variable {C:Ctx}{n:Nat}{k:Kno}{F:Frz}{own:Own}{ops rest:List Oper}{o:Oper}{Q:Kno→Frz→Own→List Rec→Prop}
theorem WT.kind(m:Nat)(_:Nat.beq (kindOf o.op) m=true)(h:WT C n ops (o::rest) k F own Q):WT C n ops (o::rest) k F own Q:=h
end
end Go.Abs
/-
 Calls in the forms that walks use;lending;slices that are made and written to.
-/
set_option linter.unusedVariables false
namespace Go.Abs
open Go
def Frz.withAll(F:Frz)(B:List (Nat×Blk)):Frz:=fun j=>match B.find? (fun p=>p.1==j) with
 | some p=>some p.2
 | none=>F j
theorem find_mem{B:List (Nat×Blk)}(hn:(B.map (·.1)).Nodup){i:Nat}{b:Blk}(h:(i,b)∈B):B.find? (fun p=>p.1==i)=some (i,b):=by
 induction B with
 | nil=>cases h
 | cons p B ih=>
  simp only[List.map_cons,List.nodup_cons] at hn;rcases List.mem_cons.1 h with rfl | h
  ·simp
  ·have hne:p.1≠i:=fun e=>hn.1 (e▸List.mem_map_of_mem h);rw[List.find?_cons,show (p.1==i)=false by simpa using hne];exact ih hn.2 h
theorem Frz.withAll_mem{F:Frz}{B:List (Nat×Blk)}(hn:(B.map (·.1)).Nodup){i:Nat}{b:Blk}(h:(i,b)∈B):Frz.withAll F B i=some b:=by
 unfold Frz.withAll;rw[find_mem hn h]
theorem Frz.le_withAll{F:Frz}{B:List (Nat×Blk)}(h:∀p∈B,F p.1=none):Frz.le F (Frz.withAll F B):=fun i b q=>by
 unfold Frz.withAll;split
 ·rename_i p hp;have h1:=List.mem_of_find?_eq_some hp;have h2:=List.find?_some hp;have:p.1=i:=by simpa using h2
  have:=h p h1;simp_all
 ·exact q
theorem St.freezeAll{F:Frz}{own:Own}{h:Heap}{B:List (Nat×Blk)}(s:St F (B::own) h) :
  St (Frz.withAll F B) own h∧Frz.le F (Frz.withAll F B)∧∀i b,(i,b)∈B→Frz.withAll F B i=some b:=by
 have s0:StF F (B++own.flatten) h:=by simpa [St] using s
 have hnd:=s0.nodup;rw[List.map_append,List.nodup_append] at hnd;have hap:∀p∈B,F p.1=none:=fun p hp=>s0.apart p (List.mem_append_left _ hp);have hle:=Frz.le_withAll hap;refine⟨⟨fun i b q=>?_,fun p hp=>s0.has p (List.mem_append_right _ hp),fun p hp=>?_,hnd.2.1,s0.wf⟩,hle,fun i b hm=>Frz.withAll_mem hnd.1 hm⟩
 ·unfold Frz.withAll at q;split at q
  ·rename_i p hp;cases q;have h1:=List.mem_of_find?_eq_some hp;have h2:=List.find?_some hp;have:p.1=i:=by simpa using h2
   rw[←this];exact s0.has p (List.mem_append_left _ h1)
  ·exact s0.frz i b q
 ·unfold Frz.withAll;split
  ·rename_i p2 hp2;have h1:=List.mem_of_find?_eq_some hp2;have h2:=List.find?_some hp2;have h3:p2.1=p.1:=by simpa using h2
   exact absurd h3 (hnd.2.2 _ (List.mem_map_of_mem h1) _ (List.mem_map_of_mem hp))
  ·exact s0.apart p (List.mem_append_right _ hp)
theorem Spec.lendB{C:Ctx}{f:FuncId}{args:List Value}{F:Frz}{oin:Own}{P:Value→Own→Prop}{B:List (Nat×Blk)}
  (spec:∀G,Frz.le F G→(∀i b,(i,b)∈B→G i=some b)→Spec C f args G oin fun _ v o=>P v o):Spec C f args F (B::oin) fun _ v o=>∃o',o=B::o'∧P v o':=by
 intro own h hs;have hs:St F (B::(oin++own)) h:=hs;obtain⟨s1,hle,hB⟩:=hs.freezeAll;obtain⟨v,h',F',oout,h1,h2,h3,h4⟩:=spec _ hle hB own h s1;have s0:StF F (B++(oin++own).flatten) h:=by simpa [St] using hs
 have hnd:=s0.nodup;rw[List.map_append,List.nodup_append] at hnd;have h3':StF F' (oout++own).flatten h':=h3;have hF':∀i b,(i,b)∈B→F' i=some b:=fun i b hm=>h2 i b (hB i b hm);refine⟨v,h',F,B::oout,h1,Frz.le.refl F,?_,oout,rfl,h4⟩;show StF F (B++(oout++own).flatten) h';refine⟨fun i b q=>h3'.frz i b (h2 i b (hle i b q)),fun p hp=>?_,fun p hp=>?_,?_,h3'.wf⟩
 ·rcases List.mem_append.1 hp with hp | hp
  ·exact h3'.frz _ _ (hF' p.1 p.2 hp)
  ·exact h3'.has p hp
 ·rcases List.mem_append.1 hp with hp | hp
  ·exact s0.apart p (List.mem_append_left _ hp)
  ·have:=h3'.apart p hp;cases hf:F p.1 with
   | none=>rfl
   | some b=>rw[h2 _ _ (hle _ _ hf)] at this;cases this
 ·rw[List.map_append,List.nodup_append];refine⟨hnd.1,h3'.nodup,fun a ha b hb=>?_⟩;obtain⟨p,hp,rfl⟩:=List.mem_map.1 ha;obtain⟨q,hq,rfl⟩:=List.mem_map.1 hb;intro e;have h5:=h3'.apart q hq;rw[←e,hF' p.1 p.2 hp] at h5;cases h5
section
variable {C:Ctx}{T:RT}{n:Nat}{k:Kno}{F:Frz}{own:Own}{ops rest:List Oper}{o:Oper}{Q:Kno→Frz→Own→List Rec→Prop}{α:Type}{R:Ty α}
theorem WT.callV{f:FuncId}{fn:Func}{as:Array Operand}{ts:Array TypeId}{args:List Value}{P:Value→Prop}(hf:C.func f=some fn)(hb:fn.body.isSome=true)(hop:o.op=.call ⟨.value (.func f),as,ts⟩)
  (hw:wantK ops k o=some true) {dst:Nat} (hdst:o.dst=some dst) (hn:Nat.blt dst n=true) (hv:vals (evK C k) as.toList=some args) (spec:Spec C f args F [] fun _ v o=>o=[]∧P v)
  (h:∀v,P v→WT C n ops rest ((dst,v)::k) F own (fun k2 F2 own2 rs=>Q k2 F2 own2 (⟨F,own,F,own,[]⟩::rs))) :
  WT C n ops (o::rest) k F own Q:=by
 refine WT.step (l:=[]) (by rw[hop];rfl) fun e h' hk hs=>?_;obtain⟨v,h1,F1,oout,⟨m,hd⟩,hF,hs1,rfl,hp⟩:=spec own h' hs;refine⟨v,h1,F,own,⟨m,fun N hN=>?_⟩,Frz.le.refl F,hs1.back_to hF,by rw[hdst,putK_some hn];exact h v hp⟩;unfold stepA;rw[wantK_ok hk hw];have:opA C (evK C k) h' o.op=some (.call f args):=by
  rw[hop];simp only[opA,evK,hv,callA,hf,hb,cond_true];simp
 simp only[opA_mono hk.eval this,hd N hN]
theorem WT.callF0{f:FuncId}{fn:Func}{as:Array Operand}{ts:Array TypeId}{args:List Value}{P:Frz→Value→Prop}(hf:C.func f=some fn)(hb:fn.body.isSome=true)(hop:o.op=.call ⟨.value (.func f),as,ts⟩)
  (hw:wantK ops k o=some true) {dst:Nat} (hdst:o.dst=some dst) (hn:Nat.blt dst n=true) (hv:vals (evK C k) as.toList=some args) (spec:Spec C f args F [] fun F' v o=>o=[]∧P F' v)
  (h:∀F' v,Frz.le F F'→P F' v→WT C n ops rest ((dst,v)::k) F' own (fun k2 F2 own2 rs=>Q k2 F2 own2 (⟨F,own,F',own,[]⟩::rs))) :
  WT C n ops (o::rest) k F own Q:=
 WT.callF hf hb hop hw hdst hn hv spec (List.Perm.refl _) (fun F' v oout hF hP=>by obtain⟨rfl,hp⟩:=hP;exact h F' v hF hp)
theorem WT.call1(p:Nat){f:FuncId}{fn:Func}{as:Array Operand}{ts:Array TypeId}{args:List Value}{B:List (Nat×Blk)}{upd:List (Nat×Blk)→Own}{P:Value→List (Nat×Blk)→Prop}(hf:C.func f=some fn)(hb:fn.body.isSome=true)(hop:o.op=.call ⟨.value (.func f),as,ts⟩)
  (hw:wantK ops k o=some true) {dst:Nat} (hdst:o.dst=some dst) (hn:Nat.blt dst n=true) (hv:vals (evK C k) as.toList=some args) (hp:own[p]?=some B) (hupd:∀B',setO own p B'=some (upd B'))
  (spec:Spec C f args F [B] fun _ v o=>∃B',o=[B']∧P v B')
  (h:∀v B',P v B'→WT C n ops rest ((dst,v)::k) F (upd B') (fun k2 F2 own2 rs=>Q k2 F2 own2 (⟨F,own,F,upd B',[]⟩::rs))) :
  WT C n ops (o::rest) k F own Q:=by
 refine WT.step (l:=[]) (by rw[hop];rfl) fun e h' hk hs=>?_;obtain⟨v,h1,F1,oout,⟨m,hd⟩,hF,hs1,B',rfl,hp'⟩:=spec (own.eraseIdx p) h' (hs.perm (perm_pick hp));have e1:=setO_ok _ _ _ _ (hupd B');refine⟨v,h1,F,upd B',⟨m,fun N hN=>?_⟩,Frz.le.refl F,?_,by rw[hdst,putK_some hn];exact h v B' hp'⟩
 ·unfold stepA;rw[wantK_ok hk hw];have:opA C (evK C k) h' o.op=some (.call f args):=by
   rw[hop];simp only[opA,evK,hv,callA,hf,hb,cond_true];simp
  simp only[opA_mono hk.eval this,hd N hN]
 ·rw[←e1];exact(hs1.back_to hF).perm (perm_set B' hp).symm
theorem WT.callLend(p:Nat){f:FuncId}{fn:Func}{as:Array Operand}{ts:Array TypeId}{args:List Value}{B:List (Nat×Blk)}{P:Value→Prop}(hf:C.func f=some fn)(hb:fn.body.isSome=true)(hop:o.op=.call ⟨.value (.func f),as,ts⟩)
  (hw:wantK ops k o=some true) {dst:Nat} (hdst:o.dst=some dst) (hn:Nat.blt dst n=true) (hv:vals (evK C k) as.toList=some args) (hp:own[p]?=some B)
  (spec:∀G,Frz.le F G→(∀i b,(i,b)∈B→G i=some b)→Spec C f args G [] fun _ v o=>o=[]∧P v)
  (h:∀v,P v→WT C n ops rest ((dst,v)::k) F own (fun k2 F2 own2 rs=>Q k2 F2 own2 (⟨F,own,F,own,[]⟩::rs))) :
  WT C n ops (o::rest) k F own Q:=by
 refine WT.step (l:=[]) (by rw[hop];rfl) fun e h' hk hs=>?_;obtain⟨v,h1,F1,oout,⟨m,hd⟩,hF,hs1,o',rfl,rfl,hp'⟩:=Spec.lendB spec (own.eraseIdx p) h' (hs.perm (perm_pick hp));refine⟨v,h1,F,own,⟨m,fun N hN=>?_⟩,Frz.le.refl F,?_,by rw[hdst,putK_some hn];exact h v hp'⟩
 ·unfold stepA;rw[wantK_ok hk hw];have:opA C (evK C k) h' o.op=some (.call f args):=by
   rw[hop];simp only[opA,evK,hv,callA,hf,hb,cond_true];simp
  simp only[opA_mono hk.eval this,hd N hN]
 ·exact(hs1.back_to hF).perm (perm_pick hp).symm
theorem WT.freezeAll(p:Nat){B:List (Nat×Blk)}{own':Own}(hp:own[p]?=some B)(ho:setO own p []=some own')
  (h:∀G,Frz.le F G→(∀i b,(i,b)∈B→G i=some b)→WT C n ops rest k G own' Q):WT C n ops rest k F own Q:=by
 intro e h' hk hs;have e1:=setO_ok _ _ _ _ ho;obtain⟨s1,hle,hB⟩:=(hs.perm (perm_pick hp)).freezeAll;have s2:St (Frz.withAll F B) own' h':=by
  rw[←e1];refine St.perm (own:=[]::own.eraseIdx p) ?_ (perm_set [] hp).symm;exact s1
 obtain⟨e2,h2,tr,k2,F2,own2,rs,h3,h4,h5,h6⟩:=h _ hle hB e h' hk s2;exact⟨e2,h2,tr,k2,F2,own2,rs,h3,h4,hle.trans h5,h6⟩
theorem AW.freezeAll{c:Code}{A:Ex→Kno→Frz→Own→Prop}(p:Nat){B:List (Nat×Blk)}{own':Own}(hp:own[p]?=some B)(ho:setO own p []=some own')
  (h:∀G,Frz.le F G→(∀i b,(i,b)∈B→G i=some b)→AW C n c k G own' A):AW C n c k F own A:=by
 intro e h' hk hs;have e1:=setO_ok _ _ _ _ ho;obtain⟨s1,hle,hB⟩:=(hs.perm (perm_pick hp)).freezeAll;have s2:St (Frz.withAll F B) own' h':=by
  rw[←e1];exact St.perm (own:=[]::own.eraseIdx p) s1 (perm_set [] hp).symm
 obtain⟨x,e2,h2,k2,F2,own2,h3,h4,h5,h6⟩:=h _ hle hB e h' hk s2;exact⟨x,e2,h2,k2,F2,own2,h3,h4,hle.trans h5,h6⟩
theorem Bld.frozen{a:Option Addr}{m c:Nat}{B:List (Nat×Blk)}{xs:List α}(hb:Bld R F a m c B xs){G:Frz}(hG:Frz.le F G)(hB:∀i b,(i,b)∈B→G i=some b):Arr R G a m c xs:=hb.arr hG hB
theorem WT.appendT(hT:rowsOk C T=true)(p:Nat){B:List (Nat×Blk)}{upd:List (Nat×Blk)→Own}{a:Option Addr}{m c d by_:Nat}{xs ys:List α}{ds:List Value}{t e:Nat}{ts:List TypeId}{r:Row}{z x:Value}{xo so:Operand}
  (hb:Bld R F a m c B xs) (hp:own[p]?=some B) (hupd:∀B',setO own p B'=some (upd B')) (hop:o.op=.call ⟨.builtin .append,⟨[so,xo]⟩,⟨t::ts⟩⟩) (hw:wantK ops k o=some true) {dst:Nat} (hdst:o.dst=some dst) (hn:Nat.blt dst n=true)
  (hs:evK C k so=some (.slice a m c)) (hx:evK C k xo=some x) (hr:rowOf T t=some r) (hd:r.d=.slice e) (hsz:sizeT T e=some R.size) (hz:zeroT T e=some z) (hby:bytesT T e=some by_)
  (hnew:∀h,St F own h→newsA C h e R.size ts.head? x=some (d,ds)) (hds:Cells R F ds ys) (hlen:d=ys.length) (hpos:0<d∧0<R.size∧0<by_) (hroom:(m+d)*by_≤140737488355328)
  (h:∀a' c' B',Bld R F a' (m+d) c' B' (xs++ys)→WT C n ops rest ((dst,.slice a' (m+d) c')::k) F (upd B') (fun k2 F2 own2 rs=>Q k2 F2 own2 (⟨F,own,F,upd B',[]⟩::rs))) :
  WT C n ops (o::rest) k F own Q:=
 WT.append hT p hb hp hop hw hdst hn hs hx hr hd hsz hz hby hnew hds hlen hpos hroom (fun a' c' B' hB=>by
  rw[setO_ok _ _ _ _ (hupd B')];exact h a' c' B' hB)
theorem WT.buildT(hT:rowsOk C T=true){t e len sz:Nat}{ps:Array (Nat×Operand)}{vs:List (Nat×Value)}{r:Row}{z:Value}{cs:List Value}{cap:Nat}(hop:o.op=.buildSlice t len ps)(hw:wantK ops k o=some true){dst:Nat}(hdst:o.dst=some dst)(hn:Nat.blt dst n=true)
  (hps:partsA (evK C k) ps.toList=some vs) (hr:rowOf T t=some r) (hd:r.d=.slice e) (hsz:sizeT T e=some sz) (hz:zeroT T e=some z) (hok:(Nat.ble (len*sz) 16777216&&Nat.blt 0 sz)=true)
  {cs0:List Value} (hfill:fillN (fun i=>some (i*sz,sz)) (rowsL z.cells.toList len) vs=some cs0) (hlen:cs0.length=len*sz) (hcs:takeN (len*sz) cs0=some cs) (hcap:(bif len==0 then 0 else sz)=cap)
  (h:∀i,F i=none→WT C n ops rest ((dst,.slice (some ⟨i,0,none⟩) len cap)::k) F ([(i,.cells false cs)]::own) (fun k2 F2 own2 rs=>Q k2 F2 own2 (⟨F,own,F,[(i,.cells false cs)]::own,[]⟩::rs))) :
  WT C n ops (o::rest) k F own Q:=by
 subst hcap;have:=(takeN_ok _ _ _ hcs).1;rw[←hlen,List.take_length] at this;subst this;exact WT.buildSlice hT hop hw hdst hn hps hr hd hsz hz hok (fillN_ok _ _ _ hfill) h
end
end Go.Abs
namespace Go.Abs
open Go
theorem recs_pair{i j:Nat}{ps:List (Nat×Nat)}{rs:List Rec}{a b:Rec}(ha:rs[i]?=some a)(hb:rs[j]?=some b)(hk:∀x∈a.looks,b.keeps x)(h:recsOk ps rs):recsOk ((i,j)::ps) rs:=by
 refine⟨fun a' b' ha' hb'=>?_,h⟩;rw[ha] at ha';rw[hb] at hb';cases ha';cases hb';exact .inl hk
theorem recs_bend{i j:Nat}{ps:List (Nat×Nat)}{rs:List Rec}{a b:Rec}(ha:rs[i]?=some a)(hb:rs[j]?=some b)(hij:i<j)(hk:∀h2,St b.F' b.own' h2→a.bend.p h2)(h:recsOk ps rs):recsOk ((i,j)::ps) rs:=by
 refine⟨fun a' b' ha' hb'=>?_,h⟩;rw[ha] at ha';rw[hb] at hb';cases ha';cases hb';exact .inr ⟨hij,hk⟩
theorem keep0{b:Rec}:∀y∈([]:List Nat),b.keeps y:=fun _ h=>by cases h
theorem keep1{b:Rec}{x:Nat}(h:b.keeps x):∀y∈[x],b.keeps y:=fun y hy=>by rw[List.mem_singleton.1 hy];exact h
theorem keeps_at{r:Rec}{x:Nat}{blk:Blk}(p q:Nat){B B':List (Nat×Blk)}(h1:r.own[p]?=some B)(h2:(x,blk)∈B)(h3:r.own'[q]?=some B')(h4:(x,blk)∈B'):r.keeps x:=
 .inr ⟨blk,List.mem_flatten.2 ⟨B,List.mem_of_getElem? h1,h2⟩,List.mem_flatten.2 ⟨B',List.mem_of_getElem? h3,h4⟩⟩
theorem keeps_frz{r:Rec}{x:Nat}{blk:Blk}(h:r.F x=some blk):r.keeps x:=.inl ⟨blk,h⟩
end Go.Abs
namespace Go.Abs
open Go
section
variable {C:Ctx}{T:RT}{n:Nat}{k:Kno}{F:Frz}{own:Own}{ops rest:List Oper}{o:Oper}{Q:Kno→Frz→Own→List Rec→Prop}{α:Type}{R:Ty α}
theorem WT.eqB(hT:rowsOk C T=true){t ty:TypeId}{xo yo:Operand}{a b:Bool}{r:Row}(hop:o.op=.binOp .eql t xo yo ty)(hw:wantK ops k o=some true){dst:Nat}(hdst:o.dst=some dst)(hn:Nat.blt dst n=true)
  (hx:evK C k xo=some (.bool a)) (hy:evK C k yo=some (.bool b)) (hr:rowOf T t=some r) (hd:r.d=.bool)
  (h:WT C n ops rest ((dst,.bool (a==b))::k) F own (fun k2 F2 own2 rs=>Q k2 F2 own2 (⟨F,own,F,own,[]⟩::rs))):WT C n ops (o::rest) k F own Q:=by
 refine WT.still hw (by rw[hop];simp only[looksK,hx,hy];rfl) (fun h0 _=>?_) (by rw[hdst,putK_some hn];exact h);rw[hop];have hu:=und_bool hT hr hd;simp only[opA,hx,hy,binA,eqLets,cond_true,equalA,hu];unfold eqA;simp only[hu,eqBasic];rfl
theorem WT.neB(hT:rowsOk C T=true){t ty:TypeId}{xo yo:Operand}{a b:Bool}{r:Row}(hop:o.op=.binOp .neq t xo yo ty)(hw:wantK ops k o=some true){dst:Nat}(hdst:o.dst=some dst)(hn:Nat.blt dst n=true)
  (hx:evK C k xo=some (.bool a)) (hy:evK C k yo=some (.bool b)) (hr:rowOf T t=some r) (hd:r.d=.bool)
  (h:WT C n ops rest ((dst,.bool (!(a==b)))::k) F own (fun k2 F2 own2 rs=>Q k2 F2 own2 (⟨F,own,F,own,[]⟩::rs))):WT C n ops (o::rest) k F own Q:=by
 refine WT.still hw (by rw[hop];simp only[looksK,hx,hy];rfl) (fun h0 _=>?_) (by rw[hdst,putK_some hn];exact h);rw[hop];have hu:=und_bool hT hr hd;simp only[opA,hx,hy,binA,eqLets,cond_true,equalA,hu];unfold eqA;simp only[hu,eqBasic];rfl
theorem WT.loadF(hT:rowsOk C T=true){t:TypeId}{ao:Operand}{i off:Nat}{ro:Bool}{cs:List Value}{v:Value}(hb:F i=some (.cells ro cs))(hop:o.op=.load t ao)(hw:wantK ops k o=some true){dst:Nat}(hdst:o.dst=some dst)(hn:Nat.blt dst n=true)
  (ha:evK C k ao=some (.pointer (some ⟨i,off,none⟩))) (hr:readT T cs t off=some v)
  (h:WT C n ops rest ((dst,v)::k) F own (fun k2 F2 own2 rs=>Q k2 F2 own2 (⟨F,own,F,own,[i]⟩::rs))):WT C n ops (o::rest) k F own Q:=
 WT.loadFrz hop hw ha hb (readT_ok hT hr) (by rw[hdst,putK_some hn];exact h)
theorem callA_func{f:FuncId}{fn:Func}{first args capt:List Value}(hf:C.func f=some fn)(hb:fn.body.isSome=true):callA C (.func (.func f) ⟨first⟩ ⟨capt⟩) args=some (.call f (first++args++capt)):=by
 simp only[callA,hf,hb,cond_true]
theorem WT.callC{f:FuncId}{fn:Func}{fo:Operand}{as:Array Operand}{ts:Array TypeId}{args args' first capt:List Value}{P:Value→Prop}(hf:C.func f=some fn)(hb:fn.body.isSome=true)(hop:o.op=.call ⟨.value fo,as,ts⟩)
  (hw:wantK ops k o=some true) {dst:Nat} (hdst:o.dst=some dst) (hn:Nat.blt dst n=true) (hfo:evK C k fo=some (.func (.func f) ⟨first⟩ ⟨capt⟩)) (hv:vals (evK C k) as.toList=some args) (hargs:first++args++capt=args') (spec:Spec C f args' F [] fun _ v o=>o=[]∧P v)
  (h:∀v,P v→WT C n ops rest ((dst,v)::k) F own (fun k2 F2 own2 rs=>Q k2 F2 own2 (⟨F,own,F,own,[]⟩::rs))) :
  WT C n ops (o::rest) k F own Q:=by
 subst hargs;refine WT.step (l:=[]) (by rw[hop];rfl) fun e h' hk hs=>?_;obtain⟨v,h1,F1,oout,⟨m,hd⟩,hF,hs1,rfl,hp⟩:=spec own h' hs;refine⟨v,h1,F,own,⟨m,fun N hN=>?_⟩,Frz.le.refl F,hs1.back_to hF,by rw[hdst,putK_some hn];exact h v hp⟩;unfold stepA;rw[wantK_ok hk hw];have:opA C (evK C k) h' o.op=some (.call f (first++args++capt)):=by
  rw[hop];simp only[opA,hfo,hv,callA_func hf hb]
 simp only[opA_mono hk.eval this,hd N hN]
end
end Go.Abs
/-
 Slices that are made and written to;rows of a table;numbers of 32 bits.
-/
set_option linter.unusedVariables false
namespace Go.Abs
open Go
section
variable {C:Ctx}{T:RT}{n:Nat}{k:Kno}{F:Frz}{own:Own}{ops rest:List Oper}{o:Oper}{Q:Kno→Frz→Own→List Rec→Prop}{α:Type}{R:Ty α}
theorem WT.know(d:Nat){v v':Value}(hv:lk k d=some v)(e:v=v')(h:WT C n ops rest ((d,v')::k) F own Q):WT C n ops rest k F own Q:=
 WT.weaken (SubK.shadow (e▸hv)) h
theorem AW.know{c:Code}{A:Ex→Kno→Frz→Own→Prop}(d:Nat){v v':Value}(hv:lk k d=some v)(e:v=v')(h:AW C n c ((d,v')::k) F own A):AW C n c k F own A:=
 AW.weaken (SubK.shadow (e▸hv)) h
theorem WT.idxA(hT:rowsOk C T=true){t e s:Nat}{r:Row}{xo io:Operand}{b off m c:Nat}{kd:IntKind}{j:Nat}(hop:o.op=.indexAddr t xo io)(hw:wantK ops k o=some true){dst:Nat}(hdst:o.dst=some dst)(hn:Nat.blt dst n=true)
  (hx:evK C k xo=some (.slice (some ⟨b,off,none⟩) m c)) (hi:evK C k io=some (.int kd (j:Nat))) (hr:rowOf T t=some r) (hd:r.d=.slice e) (hs:sizeT T e=some s) (hj:j<m)
  (h:WT C n ops rest ((dst,.pointer (some ⟨b,off+j*s,none⟩))::k) F own (fun k2 F2 own2 rs=>Q k2 F2 own2 (⟨F,own,F,own,[]⟩::rs))):WT C n ops (o::rest) k F own Q:=by
 refine WT.still (l:=[]) hw (by rw[hop];rfl) (fun h0 _=>?_) (by rw[hdst,putK_some hn];exact h);rw[hop];simp only[opA,hx,hi,indexAddrA,und_slice hT hr hd,sizeT_ok hT hs];rw[if_pos ⟨Int.natCast_nonneg j,by omega⟩];simp
theorem readA_at(hT:rowsOk C T=true){t off:Nat}{r:Row}{cs:List Value}{v:Value}(hr:rowOf T t=some r)(hd:r.d.agg=false)(hv:cs[off]?=some v):readA C cs t off=some v:=by
 obtain⟨_,h1,_,_,d,h4,h5⟩:=rowOf_ok hT hr;unfold readA;rw[h4];simp only[shape_agg h5,hd,cond_false];exact hv
theorem WT.loadAt(hT:rowsOk C T=true)(p:Nat){t:TypeId}{ao:Operand}{i off:Nat}{ro:Bool}{cs:List Value}{v:Value}{r:Row}{B:List (Nat×Blk)}(hop:o.op=.load t ao)(hw:wantK ops k o=some true){dst:Nat}(hdst:o.dst=some dst)(hn:Nat.blt dst n=true)
  (ha:evK C k ao=some (.pointer (some ⟨i,off,none⟩))) (hp:own[p]?=some B) (hq:(i,Blk.cells ro cs)∈B) (hr:rowOf T t=some r) (hd:r.d.agg=false) (hv:cs[off]?=some v)
  (h:WT C n ops rest ((dst,v)::k) F own (fun k2 F2 own2 rs=>Q k2 F2 own2 (⟨F,own,F,own,[i]⟩::rs))):WT C n ops (o::rest) k F own Q:=
 WT.loadOwn p hop hw ha hp hq (readA_at hT hr hd hv) (by rw[hdst,putK_some hn];exact h)
theorem WT.storeAt(hT:rowsOk C T=true)(p q:Nat){B B':List (Nat×Blk)}{own':Own}{t:TypeId}{a x:Operand}{i off:Nat}{cs:List Value}{v:Value}(hop:o.op=.store t a x)(hw:wantK ops k o=some true)(hd:o.dst=none)(ha:evK C k a=some (.pointer (some ⟨i,off,none⟩)))
  (hx:evK C k x=some v) (hp:own[p]?=some B) (hq:B[q]?=some (i,.cells false cs)) (hm:sizeT T t=some 1) (hv:v.cells.toList=[v]) (h1:one v=true) (hlt:off<cs.length)
  (hB:B.set q (i,.cells false (cs.set off v))=B') (ho:setO own p B'=some own')
  (h:WT C n ops rest k F own' (fun k2 F2 own2 rs=>Q k2 F2 own2 (⟨F,own,F,own',[i]⟩::rs))) :
  WT C n ops (o::rest) k F own Q:=by
 have e2:=setO_ok _ _ _ _ ho;subst hB;subst e2;have hs:spliceL cs off v.cells.toList=cs.set off v:=by
  unfold spliceL;rw[hv,List.set_eq_take_append_cons_drop,if_pos hlt];rfl
 have:=WT.store (C:=C) (n:=n) (k:=k) (F:=F) (Q:=Q) (rest:=rest) (ops:=ops) p q hop hw ha hx hp hq (sizeT_ok hT hm) (by rw[hv];rfl) (by rw[hv];simp[h1]) (by omega);rw[hs] at this;exact this (by rw[hd];exact h)
def normV:Value→Option Value
 | .int k n=>some (.int k n)
 | .bool b=>some (.bool b)
 | .slice a n c=>some (.slice a n c)
 | .pointer p=>some (.pointer p)
 | .map m=>some (.map m)
 | _=>none
theorem normV_ok:∀{v w:Value},normV v=some w→v=w∧v.cells.toList=[w]
 | .int _ _,_,h=>by cases h;exact⟨rfl,rfl⟩
 | .bool _,_,h=>by cases h;exact⟨rfl,rfl⟩
 | .slice _ _ _,_,h=>by cases h;exact⟨rfl,rfl⟩
 | .pointer _,_,h=>by cases h;exact⟨rfl,rfl⟩
 | .map _,_,h=>by cases h;exact⟨rfl,rfl⟩
 | .float ..,_,h=>by cases h
 | .complex ..,_,h=>by cases h
 | .string ..,_,h=>by cases h
 | .chan ..,_,h=>by cases h
 | .func ..,_,h=>by cases h
 | .nilFunc,_,h=>by cases h
 | .iface ..,_,h=>by cases h
 | .nilIface,_,h=>by cases h
 | .agg ..,_,h=>by cases h
 | .tuple ..,_,h=>by cases h
theorem WT.makeT(hT:rowsOk C T=true){t e by_:Nat}{lo co:Operand}{l:Nat}{r:Row}{z zc:Value}(hop:o.op=.makeSlice t lo co)(hw:wantK ops k o=some true){dst:Nat}(hdst:o.dst=some dst)(hn:Nat.blt dst n=true)
  (hl:evK C k lo=some (.int .i64 (l:Nat))) (hc:evK C k co=some (.int .i64 (l:Nat))) (hr:rowOf T t=some r) (hd:r.d=.slice e) (hsz:sizeT T e=some 1) (hz:zeroT T e=some z) (hzn:normV z=some zc) (hby:bytesT T e=some by_)
  (hroom:l≤281474976710656∧by_*l≤281474976710656)
  (h:∀i,F i=none→WT C n ops rest ((dst,.slice (some ⟨i,0,none⟩) l (bif l==0 then 0 else 1))::k) F ([(i,.cells false (List.replicate l zc))]::own) (fun k2 F2 own2 rs=>Q k2 F2 own2 (⟨F,own,F,[(i,.cells false (List.replicate l zc))]::own,[]⟩::rs))) :
  WT C n ops (o::rest) k F own Q:=by
 have hzc:=(normV_ok hzn).2;have hrows:rowsL z.cells.toList l=List.replicate l zc:=by
  rw[hzc];clear hroom h hl hc
  induction l with
  | zero=>rfl
  | succ l ih=>simp only[rowsL,ih,List.replicate_succ];rfl
 refine WT.new (mk:=fun i=>.slice (some ⟨i,0,none⟩) l (bif l==0 then 0 else 1)) (l:=[]) hw (by rw[hop];rfl) (fun h0 _=>?_) (fun i hi=>by rw[hdst,putK_some hn];exact h i hi);rw[hop];simp only[opA,hl,hc,makeSliceA,und_slice hT hr hd,sizeT_ok hT hsz,zeroT_ok hT hz,bytesT_ok hT hby];have h2:((by_:Nat):Int)*(l:Int)≤281474976710656:=by
  have:=hroom.2;have h2:((by_*l:Nat):Int)≤281474976710656:=by omega
  rwa [Int.natCast_mul] at h2
 have h3:(0:Int)≤l∧True∧(l:Int)≤281474976710656∧(by_:Int)*(l:Int)≤281474976710656∧0<1:=⟨Int.natCast_nonneg l,trivial,by omega,h2,by decide⟩;rw[if_pos h3];simp[hrows]
end
structure CellTy(α:Type) where
 cell:α→Value
 one:∀x,Go.Abs.one (cell x)=true
 cells:∀x,(cell x).cells.toList=[cell x]
def cBool:CellTy Bool:=⟨fun x=>.bool x,fun _=>rfl,fun _=>rfl⟩
inductive Rows{α:Type}(K:CellTy α):List Value→List (Nat×Blk)→List (List α)→Prop
 | nil:Rows K [] [] []
 | cons {id c:Nat} {vs:List Value} {bs:List (Nat×Blk)} {row:List α} {rows:List (List α)}:(c=if row.length=0 then 0 else 1)→Rows K vs bs rows→
   Rows K (.slice (some ⟨id,0,none⟩) row.length c::vs) ((id,.cells false (row.map K.cell))::bs) (row::rows)
section
variable {α:Type}{K:CellTy α}
theorem Rows.len{vs:List Value}{bs:List (Nat×Blk)}{rows:List (List α)}(h:Rows K vs bs rows):vs.length=rows.length∧bs.length=rows.length:=by
 induction h with
 | nil=>simp
 | cons _ _ ih=>simp[ih]
theorem Rows.at{vs:List Value}{bs:List (Nat×Blk)}{rows:List (List α)}(h:Rows K vs bs rows):∀(r:Nat) (row:List α),rows[r]?=some row→
  ∃id c,vs[r]?=some (.slice (some ⟨id,0,none⟩) row.length c)∧bs[r]?=some (id,.cells false (row.map K.cell))∧(c=if row.length=0 then 0 else 1):=by
 induction h with
 | nil=>intro r row h;simp at h
 | cons hc _ ih=>
  intro r row h;cases r with
  | zero=>simp at h;subst h;exact⟨_,_,rfl,rfl,hc⟩
  | succ r=>exact ih r row (by simpa using h)
theorem Rows.set{vs:List Value}{bs:List (Nat×Blk)}{rows:List (List α)}(h:Rows K vs bs rows):∀(r:Nat) (row row':List α) (id:Nat),rows[r]?=some row→row'.length=row.length→bs[r]?=some (id,.cells false (row.map K.cell))→
  Rows K vs (bs.set r (id,.cells false (row'.map K.cell))) (rows.set r row'):=by
 induction h with
 | nil=>intro r row row' id h;simp at h
 | cons hc h2 ih=>
  intro r row row' id h hl hb;cases r with
  | zero=>
   simp at h;subst h;simp at hb;obtain⟨rfl,_⟩:=hb;simp only[List.set_cons_zero];rw[←hl];exact Rows.cons (by rw[hl];exact hc) h2
  | succ r=>exact Rows.cons hc (ih r row row' id (by simpa using h) hl (by simpa using hb))
theorem Rows.snoc{vs:List Value}{bs:List (Nat×Blk)}{rows:List (List α)}(h:Rows K vs bs rows){id c:Nat}{row:List α}(hc:c=if row.length=0 then 0 else 1) :
  Rows K (vs++[.slice (some ⟨id,0,none⟩) row.length c]) (bs++[(id,.cells false (row.map K.cell))]) (rows++[row]):=by
 induction h with
 | nil=>exact Rows.cons hc Rows.nil
 | cons hc2 _ ih=>exact Rows.cons hc2 ih
theorem arr_of_cells{R:Ty α}(hs:R.size=1)(hrel:∀F x,R.rel F [K.cell x] x){F:Frz}{id c:Nat}{row:List α}(hc:c=if row.length=0 then 0 else 1){ro:Bool}(hF:F id=some (.cells ro (row.map K.cell))) :
  Arr R F (some ⟨id,0,none⟩) row.length c row:=by
 refine⟨rfl,?_,?_,fun h=>(by cases h),fun p hp=>(by cases hp;rfl),fun j x hj=>?_⟩
 ·rw[hs,hc];split<;>simp
 ·rw[hc];split
  ·intro _;assumption
  ·intro h;cases h
 ·refine⟨id,0,ro,_,[K.cell x],rfl,hF,?_,hrel F x⟩;rw[hs,Nat.zero_add,Nat.mul_one];unfold partL;have:((row.map K.cell).drop j).take 1=[K.cell x]:=by
   have hlt:j<row.length:=(List.getElem?_eq_some_iff.1 hj).1;rw[List.drop_eq_getElem_cons (by simpa using hlt)];rw[List.getElem?_eq_getElem hlt] at hj;simp at hj;simp[hj]
  rw[this];rfl
theorem Rows.arr{R:Ty α}(hs:R.size=1)(hrel:∀F x,R.rel F [K.cell x] x){vs:List Value}{bs:List (Nat×Blk)}{rows:List (List α)}(h:Rows K vs bs rows){F:Frz}(hF:∀i b,(i,b)∈bs→F i=some b){o c:Nat}{ro:Bool}
  (hc:c=if rows.length=0 then 0 else 1) (ho:F o=some (.cells ro vs)):Arr (tList R) F (some ⟨o,0,none⟩) rows.length c rows:=by
 refine⟨rfl,?_,?_,fun h=>(by cases h),fun p hp=>(by cases hp;rfl),fun j x hj=>?_⟩
 ·show c=0∨c=1;rw[hc];split<;>simp
 ·rw[hc];split
  ·intro _;assumption
  ·intro h;cases h
 ·obtain⟨id,c2,h1,h2,h3⟩:=h.at j x hj;refine⟨o,0,ro,vs,[_],rfl,ho,?_,_,_,_,rfl,arr_of_cells hs hrel h3 (hF _ _ (List.mem_of_getElem? h2))⟩;show partL vs (0+j*1) 1=_;rw[Nat.zero_add,Nat.mul_one];unfold partL;have hlt:j<vs.length:=(List.getElem?_eq_some_iff.1 h1).1;have:(vs.drop j).take 1=[.slice (some ⟨id,0,none⟩) x.length c2]:=by
   rw[List.drop_eq_getElem_cons hlt];rw[List.getElem?_eq_getElem hlt] at h1;simp at h1;simp[h1]
  rw[this];rfl
end
end Go.Abs
/-
 From a function's contract over the abstract machine to its calls in the model: arguments that are numbers and slices of numbers.
-/
set_option linter.unusedVariables false
namespace Go.Abs
open Go Go.ChangeShapes Go.WideShapes Go.RowKit
theorem wordV_self{σ:Sig}:∀{v:Value},wordV v=true→VRel σ v v
 | .int _ _,_=>rfl
 | .bool _,_=>rfl
 | .float ..,h=>by cases h
 | .complex ..,h=>by cases h
 | .string ..,h=>by cases h
 | .pointer ..,h=>by cases h
 | .slice ..,h=>by cases h
 | .map ..,h=>by cases h
 | .chan ..,h=>by cases h
 | .func ..,h=>by cases h
 | .nilFunc,h=>by cases h
 | .iface ..,h=>by cases h
 | .nilIface,h=>by cases h
 | .agg ..,h=>by cases h
 | .tuple ..,h=>by cases h
def locOf:List (Nat×Loc)→Nat→Option Loc
 | [],_=>none
 | (i,l)::ls,j=>if i=j then some l else locOf ls j
theorem locOf_app:∀(a b:List (Nat×Loc)) (j:Nat),locOf (a++b) j=match locOf a j with | some l=>some l | none=>locOf b j
 | [],b,j=>by simp[locOf]
 | (i,l)::a,b,j=>by
  simp only[List.cons_append,locOf];split
  ·rfl
  ·exact locOf_app a b j
theorem tabsT_get{l:List (Nat×Blk)}(hn:(l.map (·.1)).Nodup){i:Nat}{b:Blk}(h:(i,b)∈l):(tabsT l).get i=some b:=by
 induction l with
 | nil=>cases h
 | cons p l ih=>
  simp only[List.map_cons,List.nodup_cons] at hn;simp only[tabsT];rw[T.get_set];rcases List.mem_cons.1 h with rfl | h
  ·simp
  ·have:i≠p.1:=fun e=>hn.1 (e▸List.mem_map_of_mem h);rw[if_neg this];exact ih hn.2 h
theorem calls_of_spec{C:Ctx}{P:Program}(ok:C.Ok P)(fok:FactsOk C P){f:FuncId}{aa vs:List Value}{blks:List (Nat×Blk)}{locs:List (Nat×Loc)}{nx:Nat}{W:World}
  (hb:∀p∈blks,wordB p.2=true∧p.1<nx∧∃l,locOf locs p.1=some l∧∀σ,BRel σ W l p.2)
  (hnd:(blks.map (·.1)).Nodup) (hglob:∀g,g<C.globs→∃l,locOf locs g=some l∧l.blk=g∧l.off=0) (hlocs:∀i,nx≤i→locOf locs i=none)
  (hvs:VRels (locOf locs) aa vs) (spec:∀F,(∀p∈blks,F p.1=some p.2)→Abs.Spec C f aa F [] fun _ v o=>o=[]∧v=.bool true) :
  Calls P f ⟨vs⟩ W fun e w'=>e=.returned (.bool true)∧Below W.heap.size W w':=by
 have hget:∀i b,(⟨nx,tabsT blks⟩:Heap).get i=some b→(i,b)∈blks:=fun i b h=>tabsT_mem blks i b h;have hst:St (⟨nx,tabsT blks⟩:Heap).get ([]++[]) ⟨nx,tabsT blks⟩:=
  ⟨fun i b h=>h,fun p hp=>(by cases hp),fun p hp=>(by cases hp),List.nodup_nil,fun i b h=>(hb _ (hget i b h)).2.1⟩
 obtain⟨v,h',F',oout,⟨m,hm⟩,_,_,_,rfl⟩:=spec (⟨nx,tabsT blks⟩:Heap).get (fun p hp=>tabsT_get hnd hp) [] _ hst;have hsim:Sim (locOf locs) (⟨nx,tabsT blks⟩:Heap).get W:=by
  constructor
  ·intro i b hi;obtain⟨_,_,l,h1,h2⟩:=hb _ (hget i b hi);exact⟨l,h1,h2 _⟩
  ·intro i j b c li lj hi hj _ hro;rw[wordB_ro (hb _ (hget i b hi)).1,wordB_ro (hb _ (hget j c hj)).1] at hro;simp at hro
 refine((calls_ok ok fok m).run f aa _ _ _ (hm m (Nat.le_refl _)) (fun i b h=>(hb _ (hget i b h)).2.1) (locOf locs) W vs hglob hsim hvs (fun i hi _=>hlocs i hi)).mono ?_;rintro e w' ⟨v',σ',rfl,hv,hs,hev⟩;have hv:v'=.bool true:=hv;subst hv;exact⟨rfl,hev.below fun i b h=>wordB_ro (hb _ (hget i b h)).1⟩
theorem brel_row{W:World}{b off:Nat}{cs:List Value}(hne:cs≠[])(hc:∀j v,cs[j]?=some v→W.cell? ⟨b,off+j,none⟩=some v)(hw:cs.all wordV=true) :
  ∃l:Loc,l.blk=b∧l.off=off∧off+cs.length≤l.size∧∀σ,BRel σ W l (.cells true cs):=by
 obtain⟨c,cs',rfl⟩:=List.exists_cons_of_ne_nil hne;have h0:=hc 0 c rfl;unfold World.cell? at h0;split at h0
 ·rename_i arr ty fr hh;have hcell:∀j v,(c::cs')[j]?=some v→arr[off+j]?=some v:=fun j v hj=>by
   have:=hc j v hj;unfold World.cell? at this;simp only[hh] at this;simpa using this
  have hlen:off+(c::cs').length≤arr.size:=by
   have:=hcell cs'.length ((c::cs')[cs'.length]'(by simp)) (List.getElem?_eq_getElem (by simp));have:=(Array.getElem?_eq_some_iff.1 this).1;simp;omega
  have hlist:(arr.toList.drop off).take (c::cs').length=c::cs':=by
   apply List.ext_getElem?;intro j;rw[List.getElem?_take,List.getElem?_drop];split
   ·rename_i hj;have:=hcell j ((c::cs')[j]) (List.getElem?_eq_getElem hj);rw[List.getElem?_eq_getElem hj,←this];simp
   ·rename_i hj;rw[List.getElem?_eq_none (by omega)]
  refine⟨⟨b,off,arr.size⟩,rfl,rfl,hlen,fun σ=>⟨arr,ty,fr,hh,rfl,fun h=>(by cases h),hlen,?_⟩⟩;have hself:∀l:List Value,l.all wordV=true→VRels σ l l:=by
   intro l
   induction l with
   | nil=>intro _;rfl
   | cons v l ih=>
    intro h;simp only[List.all_cons,Bool.and_eq_true] at h;exact⟨v,l,rfl,wordV_self h.1,ih h.2⟩
  show VRels σ (c::cs') ((arr.toList.drop off).take (c::cs').length);rw[hlist];exact hself _ hw
 ·cases h0
def ArgRels(tI:TypeId)(F:Frz):List TypeId→List Value→Prop
 | [],aa=>aa=[]
 | t::ts,aa=>∃a aa',aa=a::aa'∧(if t=tI then ∃n,a=.int .i64 n else ∃b m c l,a=.slice b m c∧Arr tInt F b m c l∧m≤9223372036854775807)∧ArgRels tI F ts aa'
section
variable {H:Type}{enc:TypeId×Value→H}{P:Program}{W:World}
theorem ints_arr{zs:List Int}{len:Nat}(hl:len≤zs.length)(hz:zs≠[]){k:Nat}{F:Frz}(hF:F k=some (.cells true (zs.map fun n=>Value.int .i64 n))):Arr tInt F (some ⟨k,0,none⟩) len 1 (zs.take len):=by
 refine⟨by simp;omega,.inr rfl,fun h=>(by cases h),fun h=>(by cases h),fun p hp=>(by cases hp;rfl),fun j x hj=>?_⟩;rw[List.getElem?_take] at hj;split at hj
 ·refine⟨k,0,true,_,[.int .i64 x],rfl,hF,?_,rfl⟩;show partL _ (0+j*1) 1=_;rw[Nat.zero_add,Nat.mul_one];unfold partL;have hlt:j<zs.length:=(List.getElem?_eq_some_iff.1 hj).1;have:((zs.map fun n=>Value.int .i64 n).drop j).take 1=[.int .i64 x]:=by
   rw[List.drop_eq_getElem_cons (by simpa using hlt)];rw[List.getElem?_eq_getElem hlt] at hj;simp at hj;simp[hj]
  rw[this];rfl
 ·cases hj
theorem args_abs{tI tS:TypeId}(hI:P.underlying tI=some (.int .i64))(hS:P.underlying tS=some (.slice tI))(hc:P.cellsOf tI=1)(hne:tS≠tI){base:Nat} :
  ∀(ts:List TypeId) (vs:List Value) (ds:List (DataW H)) (ps:List MemPlace) (k0:Nat),DataW.TrodAll enc P W 0 (fun _=>true) true ts vs ds ps→
  (∀(j:Nat) (t:TypeId) (v:Value),ts[j]?=some t→vs[j]?=some v→Value.okWide P W .any base t v)→(∀t∈ts,t=tI∨t=tS)→
  ∃(aa:List Value) (blks:List (Nat×Blk)) (locs:List (Nat×Loc)),(∀p∈blks,k0≤p.1∧p.1<k0+ts.length∧wordB p.2=true∧∃l,locOf locs p.1=some l∧∀σ,BRel σ W l p.2)∧
   (∀i l,locOf locs i=some l→k0≤i∧i<k0+ts.length)∧(blks.map (·.1)).Nodup∧(∀σ:Sig,(∀i l,locOf locs i=some l→σ i=some l)→VRels σ aa vs)∧
   (∀F:Frz,(∀p∈blks,F p.1=some p.2)→ArgRels tI F ts aa)∧
   (∀W',Below W.heap.size W W'→∀sp:Nat→Bool,(∀p∈ps,sp p.block=true)→DataW.TrodAll enc P W' 0 sp true ts vs ds ps)
 | [],vs,ds,ps,k0,h,_,_=>by
  obtain⟨rfl,rfl,rfl⟩:=trodAll_nil h;exact⟨[],[],[],fun p hp=>(by cases hp),fun i l hl=>(by cases hl),List.nodup_nil,fun σ _=>rfl,fun F _=>rfl,fun W' _ sp _=>rfl⟩
 | t::ts,vs,ds,ps,k0,h,hok,hts=>by
  obtain⟨v,vs',d,ds',p,q,rfl,rfl,rfl,hd,hrest⟩:=trodAll_cons h;obtain⟨aa,blks,locs,h1,h2,h3,h4,h5,h6⟩:=args_abs hI hS hc hne ts vs' ds' q (k0+1) hrest (fun j t v hj hv=>hok (j+1) t v (by simpa using hj) (by simpa using hv)) (fun t ht=>hts t (List.mem_cons_of_mem _ ht));have hv:=hok 0 t v rfl rfl;have hlt:∀j,k0+1≤j→j<k0+1+ts.length→k0≤j∧j<k0+(t::ts).length:=fun j a b=>by simp;omega
  rcases hts t (List.mem_cons_self ..) with rfl | rfl
  ·obtain⟨n,rfl,rfl,rfl,hwf⟩:=open_int hI hv hd;refine⟨.int .i64 n::aa,blks,locs,fun p hp=>?_,fun i l hl=>?_,h3,fun σ hσ=>⟨_,_,rfl,rfl,h4 σ hσ⟩,fun F hF=>⟨_,_,rfl,by rw[if_pos rfl];exact⟨n,rfl⟩,h5 F hF⟩,fun W' hW sp hsp=>?_⟩
   ·obtain⟨a,b,r⟩:=h1 p hp;exact⟨(hlt _ a b).1,(hlt _ a b).2,r⟩
   ·obtain⟨a,b⟩:=h2 i l hl;exact hlt _ a b
   ·exact⟨[],q,shut_int hI hwf,h6 W' hW sp (fun p hp=>hsp p (by simpa using hp)),by simp⟩
  ·obtain⟨av,len,cap,rfl⟩:=okWide_slice hS hv;obtain⟨fuel,hf⟩:=hd;rcases open_ints hS hI hc hf with ⟨e1,e2⟩ | ⟨a,len',cap',zs,e1,hb,hl,hm,hz,hx,hcell,hwf⟩
   ·simp only[Value.cells,List.cons.injEq,and_true] at e1;cases e1;simp only[Prod.mk.injEq] at e2;obtain⟨rfl,rfl⟩:=e2;refine⟨.slice none 0 0::aa,blks,locs,fun p hp=>?_,fun i l hl=>?_,h3,fun σ hσ=>⟨_,_,rfl,⟨rfl,rfl,rfl⟩,h4 σ hσ⟩,fun F hF=>⟨_,_,rfl,by rw[if_neg hne];exact⟨none,0,0,[],rfl,Arr.nil_ _ _,by decide⟩,h5 F hF⟩,fun W' hW sp hsp=>?_⟩
    ·obtain⟨a,b,r⟩:=h1 p hp;exact⟨(hlt _ a b).1,(hlt _ a b).2,r⟩
    ·obtain⟨a,b⟩:=h2 i l hl;exact hlt _ a b
    ·refine⟨[],q,⟨1,?_⟩,h6 W' hW sp (fun p hp=>hsp p (by simpa using hp)),by simp⟩;rw[DataW.trod_step];unfold DataW.trodStep;simp[hS,Value.cells]
   ·simp only[Value.cells,List.cons.injEq,and_true] at e1;cases e1;simp only[Prod.mk.injEq] at hx;obtain⟨rfl,rfl⟩:=hx;simp only[if_true] at hz;have reread:∀W',Below W.heap.size W W'→∀sp:Nat→Bool,(∀p∈MemPlace.row a zs.length++q,sp p.block=true)→DataW.TrodAll enc P W' 0 sp true (t::ts) (.slice (some a) len cap::vs') (.slice (lits .i64 (zs.take len)) (lits .i64 (zs.drop len))::ds') (MemPlace.row a zs.length++q):=by
     intro W' hW sp hsp;refine⟨_,q,⟨2,?_⟩,h6 W' hW sp (fun p hp=>hsp p (by simp[hp])),rfl⟩;have hsp2:zs.length=if sp a.block then cap else len:=by
      rcases Nat.eq_zero_or_pos cap with h0 | h0
      ·have:len=0:=by omega
       rw[hz,h0,this];split<;>rfl
      ·have:sp a.block=true:=by
        have hmem:MemPlace.cell a.block a.off∈MemPlace.row a zs.length:=by
         unfold MemPlace.row;simp only[List.mem_map,List.mem_range];exact⟨0,by omega,by simp⟩
        exact hsp _ (List.mem_append_left _ hmem)
       rw[this,hz];rfl
     refine shut_ints 0 hS hI hc (Nat.zero_le _) hl hm hsp2 (fun i hi=>?_) hwf;have h7:=hcell i hi;have hblk:(a.add i).block<W.heap.size:=by
      unfold World.cell? at h7;split at h7
      ·rename_i hh;exact(Array.getElem?_eq_some_iff.1 hh).1
      ·cases h7
     rw[hW.cell hblk];exact h7
    rcases Nat.eq_zero_or_pos cap with h0 | h0
    ·have hl0:len=0:=by omega
     subst h0;subst hl0
     refine⟨.slice (some ⟨k0,0,none⟩) 0 0::aa,blks,(k0,⟨a.block,0,0⟩)::locs,fun p hp=>?_,fun i l hl=>?_,h3,fun σ hσ=>⟨_,_,rfl,⟨⟨a.block,0,0⟩,a,0,hσ k0 _ (by simp[locOf]),rfl,rfl,Nat.le_refl _,fun _=>rfl,fun h=>absurd rfl h⟩,h4 σ fun i l hl=>hσ i l ?_⟩,
      fun F hF=>⟨_,_,rfl,by rw[if_neg hne];exact⟨_,0,0,[],rfl,⟨rfl,.inl rfl,fun _=>rfl,fun h=>(by cases h),fun p hp=>(by cases hp;rfl),fun j x hj=>(by simp at hj)⟩,by decide⟩,h5 F hF⟩,reread⟩
     ·obtain⟨a1,b1,r1,l,r2,r3⟩:=h1 p hp;refine⟨(hlt _ a1 b1).1,(hlt _ a1 b1).2,r1,l,?_,r3⟩;simp only[locOf];rw[if_neg (by omega)];exact r2
     ·simp only[locOf] at hl;split at hl
      ·rename_i e;subst e;simp
      ·obtain⟨a1,b1⟩:=h2 i l hl;exact hlt _ a1 b1
     ·have:=h2 i l hl;simp only[locOf];rw[if_neg (by omega)];exact hl
    ·have hzne:zs≠[]:=by intro e;subst e;simp at hz;omega
     have hspot:a.spot=none:=by
      have:=hcell 0 (by omega);unfold World.cell? at this;split at this
      ·split at this
       ·cases this
       ·rename_i hs;have hs':a.spot.isSome=false:=by simpa [Addr.add] using hs
        cases hsp:a.spot with
        | none=>rfl
        | some s=>rw[hsp] at hs';cases hs'
      ·cases this
     obtain⟨l0,hl1,hl2,hl3,hl4⟩:=brel_row (W:=W) (b:=a.block) (off:=a.off) (cs:=zs.map fun n=>Value.int .i64 n) (by simpa using hzne) (fun j v hj=>by
      rw[List.getElem?_map] at hj;cases hzj:zs[j]? with
      | none=>rw[hzj] at hj;cases hj
      | some z=>
       rw[hzj] at hj;simp at hj;subst hj;have hjl:j<zs.length:=(List.getElem?_eq_some_iff.1 hzj).1;have:=hcell j hjl
       rw[show a.add j=⟨a.block,a.off+j,none⟩ by
        obtain⟨ab,ao,asp⟩:=a;simp only at hspot;subst hspot;exact add_plain ab ao j] at this
       rw[this];simp[List.getD,hzj]) (by simp[wordV])
     rw[List.length_map] at hl3
     refine⟨.slice (some ⟨k0,0,none⟩) len 1::aa,(k0,.cells true (zs.map fun n=>Value.int .i64 n))::blks,(k0,l0)::locs,fun p hp=>?_,fun i l hl=>?_,?_,fun σ hσ=>⟨_,_,rfl,⟨l0,a,cap,hσ k0 _ (by simp[locOf]),rfl,rfl,hl,fun h=>(by cases h),fun _=>⟨?_,?_⟩⟩,h4 σ fun i l hl=>hσ i l ?_⟩,
      fun F hF=>⟨_,_,rfl,by rw[if_neg hne];exact⟨_,len,1,zs.take len,rfl,ints_arr (by omega) hzne (hF (k0,_) (List.mem_cons_self ..)),by unfold maxLen at hm;omega⟩,h5 F (fun p hp=>hF p (List.mem_cons_of_mem _ hp))⟩,reread⟩
     ·rcases List.mem_cons.1 hp with rfl | hp
      ·exact⟨Nat.le_refl _,by simp,by simp[wordB,wordV],l0,by simp[locOf],hl4⟩
      ·obtain⟨a1,b1,r1,l,r2,r3⟩:=h1 p hp;refine⟨(hlt _ a1 b1).1,(hlt _ a1 b1).2,r1,l,?_,r3⟩;simp only[locOf];rw[if_neg (by omega)];exact r2
     ·simp only[locOf] at hl;split at hl
      ·rename_i e;subst e;simp
      ·obtain⟨a1,b1⟩:=h2 i l hl;exact hlt _ a1 b1
     ·simp only[List.map_cons,List.nodup_cons];refine⟨fun hm=>?_,h3⟩;obtain⟨p,hp,e⟩:=List.mem_map.1 hm;have:=(h1 p hp).1;omega
     ·rw[hl1,hl2];cases a;simp at hspot;subst hspot;rfl
     ·show l0.off+0+cap*1≤l0.size;omega
     ·have:=h2 i l hl;simp only[locOf];rw[if_neg (by omega)];exact hl
end
end Go.Abs
/-
 Calls that are lent one slot and handed another,or that give back a new slot;raw values;tables.
-/
set_option linter.unusedVariables false
namespace Go.Abs
open Go
section
variable {C:Ctx}{T:RT}{n:Nat}{k:Kno}{F:Frz}{own:Own}{ops rest:List Oper}{o:Oper}{Q:Kno→Frz→Own→List Rec→Prop}{α:Type}{R:Ty α}
theorem WT.callLendN(p:Nat){f:FuncId}{fn:Func}{as_:Array Operand}{ts:Array TypeId}{args:List Value}{B:List (Nat×Blk)}{P:Value→List (Nat×Blk)→Prop}(hf:C.func f=some fn)(hb:fn.body.isSome=true)(hop:o.op=.call ⟨.value (.func f),as_,ts⟩)
  (hw:wantK ops k o=some true) {dst:Nat} (hdst:o.dst=some dst) (hn:Nat.blt dst n=true) (hv:vals (evK C k) as_.toList=some args) (hp:own[p]?=some B)
  (spec:∀G,Frz.le F G→(∀i b,(i,b)∈B→G i=some b)→Spec C f args G [] fun _ v o=>∃B',o=[B']∧P v B')
  (h:∀v B',P v B'→WT C n ops rest ((dst,v)::k) F (B'::own) (fun k2 F2 own2 rs=>Q k2 F2 own2 (⟨F,own,F,B'::own,[]⟩::rs))) :
  WT C n ops (o::rest) k F own Q:=by
 refine WT.step (l:=[]) (by rw[hop];rfl) fun e h' hk hs=>?_;obtain⟨v,h1,F1,oout,⟨m,hd⟩,hF,hs1,o',rfl,B',rfl,hp'⟩:=Spec.lendB spec (own.eraseIdx p) h' (hs.perm (perm_pick hp));refine⟨v,h1,F,B'::own,⟨m,fun N hN=>?_⟩,Frz.le.refl F,?_,by rw[hdst,putK_some hn];exact h v B' hp'⟩
 ·unfold stepA;rw[wantK_ok hk hw];have:opA C (evK C k) h' o.op=some (.call f args):=by
   rw[hop];simp only[opA,evK,hv,callA,hf,hb,cond_true];simp
  simp only[opA_mono hk.eval this,hd N hN]
 ·refine(hs1.back_to hF).perm ?_;refine(List.Perm.swap _ _ _).trans (List.Perm.cons B' ?_);exact(perm_pick hp).symm
theorem WT.callN{f:FuncId}{fn:Func}{as_:Array Operand}{ts:Array TypeId}{args:List Value}{P:Frz→Value→List (Nat×Blk)→Prop}(hf:C.func f=some fn)(hb:fn.body.isSome=true)(hop:o.op=.call ⟨.value (.func f),as_,ts⟩)
  (hw:wantK ops k o=some true) {dst:Nat} (hdst:o.dst=some dst) (hn:Nat.blt dst n=true) (hv:vals (evK C k) as_.toList=some args)
  (spec:Spec C f args F [] fun F' v o=>∃B',o=[B']∧P F' v B')
  (h:∀F' v B',Frz.le F F'→P F' v B'→WT C n ops rest ((dst,v)::k) F' (B'::own) (fun k2 F2 own2 rs=>Q k2 F2 own2 (⟨F,own,F',B'::own,[]⟩::rs))) :
  WT C n ops (o::rest) k F own Q:=
 WT.callF hf hb hop hw hdst hn hv spec (List.Perm.refl _) (fun F' v oout hF hP=>by obtain⟨B',rfl,hp⟩:=hP;exact h F' v B' hF hp)
theorem WT.callLend1(p q:Nat){f:FuncId}{fn:Func}{as_:Array Operand}{ts:Array TypeId}{args:List Value}{B D:List (Nat×Blk)}{fr:Own}{upd:List (Nat×Blk)→Own}{P:Value→List (Nat×Blk)→Prop}(hf:C.func f=some fn)(hb:fn.body.isSome=true)(hop:o.op=.call ⟨.value (.func f),as_,ts⟩)
  (hw:wantK ops k o=some true) {dst:Nat} (hdst:o.dst=some dst) (hn:Nat.blt dst n=true) (hv:vals (evK C k) as_.toList=some args) (hp:own.Perm (B::D::fr)) (hupd:∀D',(B::D'::fr).Perm (upd D'))
  (spec:∀G,Frz.le F G→(∀i b,(i,b)∈B→G i=some b)→Spec C f args G [D] fun _ v o=>∃D',o=[D']∧P v D')
  (h:∀v D',P v D'→WT C n ops rest ((dst,v)::k) F (upd D') (fun k2 F2 own2 rs=>Q k2 F2 own2 (⟨F,own,F,upd D',[]⟩::rs))) :
  WT C n ops (o::rest) k F own Q:=by
 refine WT.step (l:=[]) (by rw[hop];rfl) fun e h' hk hs=>?_;obtain⟨v,h1,F1,oout,⟨m,hd⟩,hF,hs1,o',rfl,D',rfl,hp'⟩:=Spec.lendB spec fr h' (hs.perm hp);refine⟨v,h1,F,upd D',⟨m,fun N hN=>?_⟩,Frz.le.refl F,(hs1.back_to hF).perm (hupd D'),by rw[hdst,putK_some hn];exact h v D' hp'⟩;unfold stepA;rw[wantK_ok hk hw];have:opA C (evK C k) h' o.op=some (.call f args):=by
  rw[hop];simp only[opA,evK,hv,callA,hf,hb,cond_true];simp
 simp only[opA_mono hk.eval this,hd N hN]
end
def tRaw:Ty Value where
 size:=1
 rel:=fun _ l x=>l=[x]∧Go.Abs.one x=true
 len:=fun _ _ _ h=>by rw[h.1];rfl
 one:=fun _ _ _ h=>by rw[h.1];simp[h.2]
 mono:=fun _ _ _ _ _ h=>h
theorem cells_raw{F:Frz}{cs vs:List Value}(h:Cells tRaw F cs vs):cs=vs:=by
 induction h with
 | nil=>rfl
 | cons h1 _ ih=>rw[h1.1,ih];rfl
theorem perm_to_end{α:Type}(x:α)(a b c:List α):(x::(a++(b++c))).Perm (a++((b++[x])++c)):=by
 have h:=(List.perm_middle (a:=x) (l₁:=a++b) (l₂:=c)).symm;simpa using h
section
variable {α:Type}{K:CellTy α}
def tput(M:List (List α))(i j:Nat)(x:α):List (List α):=match M[i]? with
 | some row=>M.set i (row.set j x)
 | none=>M
def tget(M:List (List α))(i j:Nat):Option α:=match M[i]? with
 | some row=>row[j]?
 | none=>none
structure TabOk(n m:Nat)(M:List (List α)):Prop where
 size:M.length=n
 row:∀r∈M,r.length=m
end
end Go.Abs
namespace Go.Abs
theorem perm_borrow{α:Type}(z y:α)(S bs X own:List α)(h:bs.Perm (y::X)):(z::((S++bs)++own)).Perm (y::((S++X)++(z::own))):=by
 have h1:((S++bs)++own).Perm (y::((S++X)++own)):=by
  have h2:(S++bs).Perm (y::(S++X)):=(h.append_left S).trans List.perm_middle;simpa using h2.append_right own
 have h3:(z::((S++X)++own)).Perm ((S++X)++(z::own)):=List.perm_middle.symm;exact(h1.cons z).trans ((List.Perm.swap y z _).trans (h3.cons y))
theorem TabOk.setRow{α:Type}{n m:Nat}{M:List (List α)}(h:TabOk n m M)(i:Nat){row:List α}(hr:row.length=m):TabOk n m (M.set i row):=by
 refine⟨by simp[h.size],fun r hm=>?_⟩;rcases List.mem_or_eq_of_mem_set hm with hm | rfl
 ·exact h.row r hm
 ·exact hr
end Go.Abs
/-
 Maps of one's own;elements that are written whole;trees;calls that hand a slot over and freeze.
-/
set_option linter.unusedVariables false
namespace Go.Abs
open Go
def keyFieldsT(T:RT)(ok:TypeId→Value→Bool):List (Nat×Nat)→List Value→Bool
 | [],_=>true
 | (off,ft)::fs,cs=>(match readT T cs ft off with
  | some a=>ok ft a
  | none=>false)&&keyFieldsT T ok fs cs
def keyT(T:RT):Nat→TypeId→Value→Bool
 | 0,_,_=>false
 | n+1,t,v=>
  match rowOf T t with
  | some r=>match r.d,v with
   | .struct fs,.agg ⟨cs⟩=>keyFieldsT T (keyT T n) fs cs
   | .int _,v=>!isTomb v
   | .bool,v=>!isTomb v
   | .string,v=>!isTomb v
   | _,_=>false
  | none=>false
section
variable {C:Ctx}{T:RT}(hT:rowsOk C T=true)
include hT
theorem keyFieldsT_ok{ok1 ok2:TypeId→Value→Bool}(he:∀t v,ok1 t v=true→ok2 t v=true):∀(fs:List Field) (cs:List Value),keyFieldsT T ok1 (fs.map fun f=>(f.offset,f.type)) cs=true→keyFields C ok2 fs cs=true
 | [],_,_=>rfl
 | f::fs,cs,q=>by
  simp only[List.map_cons,keyFieldsT,Bool.and_eq_true] at q;obtain⟨q1,q2⟩:=q;unfold keyFields;rw[keyFieldsT_ok he fs cs q2,Bool.and_true];split at q1
  ·rename_i a ha;rw[readT_ok hT ha];exact he _ _ q1
  ·cases q1
theorem keyT_ok:∀(n:Nat) (t:TypeId) (v:Value),keyT T n t v=true→keyOk C n t v=true
 | 0,_,_,q=>by cases q
 | n+1,t,v,q=>by
  unfold keyT at q;split at q
  ·rename_i r hr;split at q
   ·rename_i fs cs hd;obtain⟨fs',hu,hfs⟩:=und_struct hT hr hd;unfold keyOk;simp only[hu];rw[hfs] at q;exact keyFieldsT_ok hT (keyT_ok n) _ _ q
   ·rename_i k hd;unfold keyOk;rw[und_int hT hr hd];simpa [basicD] using q
   ·rename_i hd;unfold keyOk;rw[und_bool hT hr hd];simpa [basicD] using q
   ·rename_i hd;unfold keyOk;rw[und_string hT hr hd];simpa [basicD] using q
   ·cases q
  ·cases q
theorem und_map{t k e:Nat}{r:Row}(q:rowOf T t=some r)(hd:r.d=.map k e):C.und t=some (.map k e):=by
 obtain⟨_,_,_,_,d,h4,h5⟩:=rowOf_ok hT q;rw[hd] at h5;cases d<;>first | (cases h5;done) | skip
 simp only[shapeOk,Bool.and_eq_true] at h5;rw[h4,Nat.eq_of_beq_eq_true h5.1,Nat.eq_of_beq_eq_true h5.2]
end
structure KeyTy(C:Ctx)(t:TypeId)(κ:Type) where
 key:κ→Value
 ok:∀k,keyOk C 8 t (key k)=true
 eq:∀a b,(a=b∧eqA C 8 t (key a) (key b)=some true)∨(a≠b∧eqA C 8 t (key a) (key b)=some false)
abbrev Ents(κ:Type):=List (κ×Value)
def entsV{C:Ctx}{t:TypeId}{κ:Type}(K:KeyTy C t κ)(m:Ents κ):List (Value×Value):=m.map fun p=>(K.key p.1,p.2)
def look{κ:Type}[DecidableEq κ]:Ents κ→κ→Option Value
 | [],_=>none
 | (k,v)::m,k2=>if k2=k then some v else look m k2
def mset{κ:Type}[DecidableEq κ]:Ents κ→κ→Value→Ents κ
 | [],k,v=>[(k,v)]
 | (k',v')::m,k,v=>if k=k' then (k',v)::m else (k',v')::mset m k v
theorem look_mset{κ:Type}[DecidableEq κ](k k2:κ)(v:Value):∀m:Ents κ,look (mset m k v) k2=if k2=k then some v else look m k2
 | []=>by simp only[mset,look]
 | (k',v')::m=>by
  simp only[mset];by_cases h:k=k'
  ·subst h;simp only[if_true,look];by_cases h2:k2=k<;>simp[h2]
  ·simp only[h,if_false,look,look_mset k k2 v m];by_cases h2:k2=k'
   ·subst h2;have:¬k2=k:=fun e=>h e.symm;simp[this]
   ·simp[h2]
section
variable {C:Ctx}{T:RT}{t:TypeId}{κ:Type}[DecidableEq κ](K:KeyTy C t κ)
theorem findA_ents(k:κ):∀(m:Ents κ) (i:Nat),(look m k=none∧findA C t (K.key k) (entsV K m) i=some none)∨
  ∃j v,look m k=some v∧findA C t (K.key k) (entsV K m) i=some (some (i+j,v))∧(entsV K m)[j]?=some (K.key k,v)∧∀v',(entsV K m).set j (K.key k,v')=entsV K (mset m k v')
 | [],i=>.inl ⟨rfl,rfl⟩
 | (k',v')::m,i=>by
  rcases K.eq k k' with ⟨rfl,h⟩ | ⟨hne,h⟩
  ·refine .inr ⟨0,v',by simp[look],?_,rfl,fun w=>by simp[entsV,mset]⟩;simp only[entsV,List.map_cons,findA,h];rfl
  ·rcases findA_ents k m (i+1) with ⟨h1,h2⟩ | ⟨j,v,h1,h2,h3,h4⟩
   ·refine .inl ⟨by simp only[look];rw[if_neg hne];exact h1,?_⟩;simp only[entsV,List.map_cons,findA,h];exact h2
   ·refine .inr ⟨j+1,v,by simp only[look];rw[if_neg hne];exact h1,?_,h3,fun w=>?_⟩
    ·simp only[entsV,List.map_cons,findA,h];rw[show i+(j+1)=i+1+j by omega];exact h2
    ·have:=h4 w;simp only[entsV] at this;simp only[entsV,List.map_cons,List.set_cons_succ,mset,if_neg hne,this]
theorem mset_none(k:κ)(v:Value):∀m:Ents κ,look m k=none→entsV K (mset m k v)=entsV K m++[(K.key k,v)]
 | [],_=>rfl
 | (k',v')::m,h=>by
  simp only[look] at h;split at h
  ·cases h
  ·rename_i hne;have:=mset_none k v m h;simp only[entsV] at this;simp only[mset,if_neg hne,entsV,List.map_cons,this];rfl
omit [DecidableEq κ] in
theorem tomb_ents(k:κ):isTomb (K.key k)=false:=keyOk_tomb (K.ok k)
omit [DecidableEq κ] in
theorem alive_ents:∀m:Ents κ,alive (entsV K m)=entsV K m
 | []=>rfl
 | (k,v)::m=>by
  have:=alive_ents m;simp only[entsV] at this;simp only[entsV,List.map_cons,alive,tomb_ents K k,cond_false,this]
omit [DecidableEq κ] in
theorem setAlive_ents(x:Value×Value):∀(m:Ents κ) (j:Nat),setAlive x (entsV K m) j=(entsV K m).set j x
 | [],j=>by simp[entsV,setAlive]
 | (k,v)::m,0=>by simp only[entsV,List.map_cons,setAlive,tomb_ents K k,cond_false,List.set_cons_zero]
 | (k,v)::m,j+1=>by
  have:=setAlive_ents x m j;simp only[entsV] at this;simp only[entsV,List.map_cons,setAlive,tomb_ents K k,cond_false,List.set_cons_succ,this]
variable {n:Nat}{k:Kno}{F:Frz}{own:Own}{ops rest:List Oper}{o:Oper}{Q:Kno→Frz→Own→List Rec→Prop}
theorem WT.makeMap{tm:TypeId}{d:Nat}(hop:o.op=.makeMap tm none)(hw:wantK ops k o=some true)(hdst:o.dst=some d)(hn:Nat.blt d n=true)
  (h:∀i,F i=none→WT C n ops rest ((d,.map (some i))::k) F ([(i,.map [])]::own) (fun k2 F2 own2 rs=>Q k2 F2 own2 (⟨F,own,F,[(i,.map [])]::own,[]⟩::rs))):WT C n ops (o::rest) k F own Q:=by
 refine WT.new (mk:=fun i=>.map (some i)) (l:=[]) hw (by rw[hop];rfl) (fun h0 _=>?_) (fun i hi=>by rw[hdst,putK_some hn];exact h i hi);rw[hop];rfl
theorem WT.lookup2(hT:rowsOk C T=true)(p:Nat){tm et:TypeId}{mo ko:Operand}{i:Nat}{m:Ents κ}{key:κ}{r:Row}{z:Value}{B:List (Nat×Blk)}{d:Nat}(hop:o.op=.lookup tm mo ko true)(hw:wantK ops k o=some true)(hdst:o.dst=some d)(hn:Nat.blt d n=true)
  (hm:evK C k mo=some (.map (some i))) (hk:evK C k ko=some (K.key key)) (hp:own[p]?=some B) (hq:(i,Blk.map (entsV K m))∈B) (hr:rowOf T tm=some r) (hd:r.d=.map t et) (hz:zeroT T et=some z)
  (h1:∀v,look m key=some v→WT C n ops rest ((d,.tuple ⟨[v,.bool true]⟩)::k) F own (fun k2 F2 own2 rs=>Q k2 F2 own2 (⟨F,own,F,own,[i]⟩::rs)))
  (h2:look m key=none→WT C n ops rest ((d,.tuple ⟨[z,.bool false]⟩)::k) F own (fun k2 F2 own2 rs=>Q k2 F2 own2 (⟨F,own,F,own,[i]⟩::rs))):WT C n ops (o::rest) k F own Q:=by
 have hl:looksK (evK C k) o.op=some [i]:=by rw[hop];simp only[looksK,hm]
 rcases findA_ents K key m 0 with ⟨h3,h4⟩ | ⟨j,v,h3,h4,_,_⟩
 ·refine WT.still hw hl (fun h0 s0=>?_) (by rw[hdst,putK_some hn];exact h2 h3);have hb:=s0.has hp hq;rw[hop];simp only[opA,hm,hk,lookupA,und_map hT hr hd,entriesA,hb,alive_ents K m,K.ok,h4,zeroT_ok hT hz];rfl
 ·refine WT.still hw hl (fun h0 s0=>?_) (by rw[hdst,putK_some hn];exact h1 v h3);have hb:=s0.has hp hq;rw[hop];simp only[opA,hm,hk,lookupA,und_map hT hr hd,entriesA,hb,alive_ents K m,K.ok,h4];rfl
theorem WT.lookup1(hT:rowsOk C T=true)(p:Nat){tm et:TypeId}{mo ko:Operand}{i:Nat}{m:Ents κ}{key:κ}{r:Row}{z:Value}{B:List (Nat×Blk)}{d:Nat}(hop:o.op=.lookup tm mo ko false)(hw:wantK ops k o=some true)(hdst:o.dst=some d)(hn:Nat.blt d n=true)
  (hm:evK C k mo=some (.map (some i))) (hk:evK C k ko=some (K.key key)) (hp:own[p]?=some B) (hq:(i,Blk.map (entsV K m))∈B) (hr:rowOf T tm=some r) (hd:r.d=.map t et) (hz:zeroT T et=some z)
  (h1:WT C n ops rest ((d,(look m key).getD z)::k) F own (fun k2 F2 own2 rs=>Q k2 F2 own2 (⟨F,own,F,own,[i]⟩::rs))):WT C n ops (o::rest) k F own Q:=by
 have hl:looksK (evK C k) o.op=some [i]:=by rw[hop];simp only[looksK,hm]
 refine WT.still hw hl (fun h0 s0=>?_) (by rw[hdst,putK_some hn];exact h1);have hb:=s0.has hp hq;rw[hop];rcases findA_ents K key m 0 with ⟨h3,h4⟩ | ⟨j,v,h3,h4,_,_⟩
 ·simp only[opA,hm,hk,lookupA,und_map hT hr hd,entriesA,hb,alive_ents K m,K.ok,h4,zeroT_ok hT hz,h3];rfl
 ·simp only[opA,hm,hk,lookupA,und_map hT hr hd,entriesA,hb,alive_ents K m,K.ok,h4,h3];rfl
theorem WT.mapSet(hT:rowsOk C T=true)(p q:Nat){tm et:TypeId}{mo ko vo:Operand}{i:Nat}{m:Ents κ}{key:κ}{v:Value}{r:Row}{B B':List (Nat×Blk)}{own':Own}(hop:o.op=.mapUpdate tm mo ko vo)(hw:wantK ops k o=some true)(hdst:o.dst=none)
  (hm:evK C k mo=some (.map (some i))) (hk:evK C k ko=some (K.key key)) (hv:evK C k vo=some v) (hp:own[p]?=some B) (hq:B[q]?=some (i,Blk.map (entsV K m))) (hr:rowOf T tm=some r) (hd:r.d=.map t et)
  (hB:setB B q (i,.map (entsV K (mset m key v)))=some B') (ho:setO own p B'=some own')
  (h:WT C n ops rest k F own' (fun k2 F2 own2 rs=>Q k2 F2 own2 (⟨F,own,F,own',[]⟩::rs))):WT C n ops (o::rest) k F own Q:=by
 have e1:=setB_ok _ _ _ _ hB;have e2:=setO_ok _ _ _ _ ho;subst e1;subst e2;refine WT.put (v:=undefA) (b':=.map (entsV K (mset m key v))) p q hp hq hw (by rw[hop];rfl) (fun h0 s0 hb=>?_) (by rw[hdst];exact h);rw[hop];rcases findA_ents K key m 0 with ⟨h3,h4⟩ | ⟨j,v2,h3,h4,h5,h6⟩
 ·simp only[opA,hm,hk,hv,mapUpdateA,und_map hT hr hd,hb,alive_ents K m,K.ok,h4,mset_none K key v m h3];rfl
 ·simp only[opA,hm,hk,hv,mapUpdateA,und_map hT hr hd,hb,alive_ents K m,setAlive_ents K,K.ok,h4,Nat.zero_add,h5,sameV_refl,←h6 v];rfl
end
section
variable {C:Ctx}{T:RT}{n:Nat}{k:Kno}{F:Frz}{own:Own}{ops rest:List Oper}{o:Oper}{Q:Kno→Frz→Own→List Rec→Prop}{α:Type}{R:Ty α}
theorem WT.call1F(p:Nat){f:FuncId}{fn:Func}{as_:Array Operand}{ts:Array TypeId}{args:List Value}{B:List (Nat×Blk)}{up:List (Nat×Blk)→Own}{P:Frz→Value→List (Nat×Blk)→Prop}(hf:C.func f=some fn)(hb:fn.body.isSome=true)(hop:o.op=.call ⟨.value (.func f),as_,ts⟩)
  (hw:wantK ops k o=some true) {dst:Nat} (hdst:o.dst=some dst) (hn:Nat.blt dst n=true) (hv:vals (evK C k) as_.toList=some args) (hp:own[p]?=some B) (hupd:∀B',setO own p B'=some (up B'))
  (spec:Spec C f args F [B] fun F' v o=>∃B',o=[B']∧P F' v B')
  (h:∀F' v B',Frz.le F F'→P F' v B'→WT C n ops rest ((dst,v)::k) F' (up B') (fun k2 F2 own2 rs=>Q k2 F2 own2 (⟨F,own,F',up B',[]⟩::rs))) :
  WT C n ops (o::rest) k F own Q:=by
 refine WT.step (l:=[]) (by rw[hop];rfl) fun e h' hk hs=>?_;obtain⟨v,h1,F1,oout,⟨m,hd⟩,hF,hs1,B',rfl,hp'⟩:=spec (own.eraseIdx p) h' (hs.perm (perm_pick hp));have e1:=setO_ok _ _ _ _ (hupd B');refine⟨v,h1,F1,up B',⟨m,fun N hN=>?_⟩,hF,?_,by rw[hdst,putK_some hn];exact h F1 v B' hF hp'⟩
 ·unfold stepA;rw[wantK_ok hk hw];have:opA C (evK C k) h' o.op=some (.call f args):=by
   rw[hop];simp only[opA,evK,hv,callA,hf,hb,cond_true];simp
  simp only[opA_mono hk.eval this,hd N hN]
 ·rw[←e1];exact hs1.perm (perm_set B' hp).symm
end
end Go.Abs
/-
 Vectors: slices of one's own that keep their length,whose elements are read and written.
-/
set_option linter.unusedVariables false
namespace Go.Abs
open Go
structure Vec{α:Type}(R:Ty α)(F:Frz)(a:Option Addr)(n c:Nat)(B:List (Nat×Blk))(xs:List α):Prop where
 len:n=xs.length
 cap:c=0∨c=R.size
 zero:c=0→n=0
 nil:a=none→n=0∧c=0
 spot:∀p,a=some p→p.spot=none
 el:xs=[]∨∃i cs,a=some ⟨i,0,none⟩∧B=[(i,.cells false cs)]∧Cells R F cs xs∧0<R.size
section
variable {α:Type}{R:Ty α}{F G:Frz}{a:Option Addr}{n c:Nat}{B:List (Nat×Blk)}{xs:List α}
theorem Vec.mono(h:Vec R F a n c B xs)(hF:Frz.le F G):Vec R G a n c B xs:=
 ⟨h.len,h.cap,h.zero,h.nil,h.spot,h.el.imp id fun ⟨i,cs,h1,h2,h3,h4⟩=>⟨i,cs,h1,h2,h3.mono hF,h4⟩⟩
theorem Bld.vec(h:Bld R F a n c B xs):Vec R F a n c B xs:=by
 have hl:=h.len;rcases h.at_ with ⟨rfl,rfl,rfl,rfl⟩ | ⟨i,cs,rfl,rfl,rfl,h4,h5⟩
 ·exact⟨hl,.inl rfl,fun _=>hl,fun _=>⟨hl,rfl⟩,fun p hp=>(by cases hp),.inl rfl⟩
 ·exact⟨hl,.inr rfl,fun h=>(by omega),fun h=>(by cases h),fun p hp=>(by cases hp;rfl),.inr ⟨i,cs,rfl,rfl,h4,h5⟩⟩
theorem Vec.arr(h:Vec R F a n c B xs)(hG:Frz.le F G)(hB:∀i b,(i,b)∈B→G i=some b):Arr R G a n c xs:=by
 refine⟨h.len,h.cap,h.zero,h.nil,h.spot,fun j x hj=>?_⟩;rcases h.el with rfl | ⟨i,cs,rfl,rfl,h4,h5⟩
 ·simp at hj
 ·obtain⟨l,h6,h7⟩:=(h4.mono hG).at j x hj;exact⟨i,0,false,cs,l,rfl,hB i _ (List.mem_cons_self ..),by rw[Nat.zero_add];exact h6,h7⟩
theorem Vec.at_(h:Vec R F a n c B xs){j:Nat}{x:α}(hj:xs[j]?=some x):∃i cs,a=some ⟨i,0,none⟩∧B=[(i,.cells false cs)]∧Cells R F cs xs∧0<R.size:=by
 rcases h.el with rfl | h
 ·simp at hj
 ·exact h
theorem Vec.bld(h:Vec R F a n c B xs)(hne:xs≠[]):Bld R F a n c B xs:=by
 rcases h.el with h0 | ⟨i,cs,h1,h2,h3,h4⟩
 ·exact absurd h0 hne
 ·refine⟨h.len,.inr ⟨i,cs,h1,?_,h2,h3,h4⟩⟩;rcases h.cap with h5 | h5
  ·have:=h.zero h5;rw[h.len] at this;exact absurd (List.eq_nil_of_length_eq_zero this) hne
  ·exact h5
theorem Cells.set{x y:α}{l:List Value}(hl:R.rel F l y):∀{xs:List α} {cs:List Value} {j:Nat},Cells R F cs xs→xs[j]?=some x→Cells R F (spliceL cs (j*R.size) l) (xs.set j y)
 | [],cs,j,h,hj=>by simp at hj
 | z::xs,cs,0,h,hj=>by
  cases h with
  | cons h1 h2=>
   rename_i l1 cs1;have e:spliceL (l1++cs1) (0*R.size) l=l++cs1:=by
    unfold spliceL;rw[Nat.zero_mul,List.take_zero,List.nil_append,Nat.zero_add,R.len _ _ _ hl,←R.len _ _ _ h1,List.drop_left]
   rw[e];exact .cons hl h2
 | z::xs,cs,j+1,h,hj=>by
  cases h with
  | cons h1 h2=>
   rename_i l1 cs1;have ih:=Cells.set hl (j:=j) h2 (by simpa using hj);have e:spliceL (l1++cs1) ((j+1)*R.size) l=l1++spliceL cs1 (j*R.size) l:=by
    have hl1:=R.len _ _ _ h1;unfold spliceL;rw[show (j+1)*R.size=l1.length+j*R.size by rw[hl1,Nat.add_mul];omega]
    rw[List.take_append,List.take_of_length_le (show l1.length≤l1.length+j*R.size by omega),show l1.length+j*R.size-l1.length=j*R.size by omega,
     show l1.length+j*R.size+l.length=l1.length+(j*R.size+l.length) by omega,List.drop_append,List.drop_of_length_le (show l1.length≤l1.length+(j*R.size+l.length) by omega),
     show l1.length+(j*R.size+l.length)-l1.length=j*R.size+l.length by omega]
    simp
   rw[e];exact .cons h1 ih
theorem Vec.set(h:Vec R F a n c B xs){i:Nat}{cs:List Value}{j:Nat}{x y:α}{l:List Value}(hB:B=[(i,.cells false cs)])(hj:xs[j]?=some x)(hl:R.rel F l y) :
  Vec R F a n c [(i,.cells false (spliceL cs (j*R.size) l))] (xs.set j y):=by
 obtain⟨i',cs',h1,h2,h3,h4⟩:=h.at_ hj;rw[hB] at h2;injection h2 with h2 _;injection h2 with h2 h5;injection h5 with _ h5;subst h2;subst h5;exact⟨by rw[h.len];simp,h.cap,h.zero,h.nil,h.spot,.inr ⟨i,_,h1,rfl,h3.set hl hj,h4⟩⟩
theorem readA_agg{C:Ctx}{T:RT}(hT:rowsOk C T=true){t off m:Nat}{r:Row}{cs l:List Value}(hr:rowOf T t=some r)(hd:r.d.agg=true)(hm:r.size=m)(hp:partL cs off m=some l):readA C cs t off=some (.agg ⟨l⟩):=by
 obtain⟨_,h1,_,_,d,h4,h5⟩:=rowOf_ok hT hr;unfold readA;rw[h4];simp only[shape_agg h5,hd,cond_true,h1,hm,hp];rfl
theorem partL_one{cs l:List Value}{off:Nat}{v:Value}(hp:partL cs off 1=some l)(hl:l=[v]):cs[off]?=some v:=by
 subst hl;unfold partL at hp;cases e:(((cs.drop off).take 1).length==1) with
 | false=>simp only[e,cond_false] at hp;cases hp
 | true=>
  simp only[e,cond_true] at hp;have h:=Option.some.inj hp;have:(cs.drop off)[0]?=some v:=by
   cases h2:cs.drop off with
   | nil=>rw[h2] at h;simp at h
   | cons x xs=>rw[h2] at h;simp at h;simp[h]
  simpa using this
end
section
variable {C:Ctx}{T:RT}{n:Nat}{k:Kno}{F:Frz}{own:Own}{ops rest:List Oper}{o:Oper}{Q:Kno→Frz→Own→List Rec→Prop}{α:Type}{R:Ty α}
theorem WT.vidx(hT:rowsOk C T=true){t e:Nat}{r:Row}{xo io:Operand}{a:Option Addr}{m c:Nat}{B:List (Nat×Blk)}{xs:List α}{kd:IntKind}{j:Nat}(hv:Vec R F a m c B xs)(hop:o.op=.indexAddr t xo io)(hw:wantK ops k o=some true){dst:Nat}(hdst:o.dst=some dst)(hn:Nat.blt dst n=true)
  (hx:evK C k xo=some (.slice a m c)) (hi:evK C k io=some (.int kd (j:Nat))) (hr:rowOf T t=some r) (hd:r.d=.slice e) (hs:sizeT T e=some R.size) (hj:j<m)
  (h:∀b,a=some ⟨b,0,none⟩→WT C n ops rest ((dst,.pointer (some ⟨b,j*R.size,none⟩))::k) F own (fun k2 F2 own2 rs=>Q k2 F2 own2 (⟨F,own,F,own,[]⟩::rs))):WT C n ops (o::rest) k F own Q:=by
 have hl:=hv.len;obtain⟨x,hx2⟩:∃x,xs[j]?=some x:=⟨_,List.getElem?_eq_getElem (by omega)⟩;obtain⟨i,cs,rfl,rfl,h3,h4⟩:=hv.at_ hx2;refine WT.idxA hT hop hw hdst hn hx hi hr hd hs hj ?_;rw[Nat.zero_add];exact h i rfl
theorem WT.vldS(hT:rowsOk C T=true)(p:Nat){t:TypeId}{ao:Operand}{a:Option Addr}{m c j b:Nat}{B:List (Nat×Blk)}{xs:List α}{x:α}{r:Row}(hv:Vec R F a m c B xs)(ha:a=some ⟨b,0,none⟩)(hj:xs[j]?=some x)(hop:o.op=.load t ao)(hw:wantK ops k o=some true){dst:Nat}(hdst:o.dst=some dst)(hn:Nat.blt dst n=true)
  (hao:evK C k ao=some (.pointer (some ⟨b,j*R.size,none⟩))) (hp:own[p]?=some B) (hr:rowOf T t=some r) (hd:r.d.agg=true) (hs:r.size=R.size)
  (h:∀l,R.rel F l x→WT C n ops rest ((dst,.agg ⟨l⟩)::k) F own (fun k2 F2 own2 rs=>Q k2 F2 own2 (⟨F,own,F,own,[b]⟩::rs))):WT C n ops (o::rest) k F own Q:=by
 obtain⟨i,cs,h1,rfl,h3,h4⟩:=hv.at_ hj;rw[ha] at h1;injection h1 with h1;injection h1 with h1;subst h1;obtain⟨l,h5,h6⟩:=h3.at j x hj;exact WT.loadOwn p hop hw hao hp (List.mem_cons_self ..) (readA_agg hT hr hd hs h5) (by rw[hdst,putK_some hn];exact h l h6)
theorem WT.vst(hT:rowsOk C T=true)(p:Nat){t:TypeId}{ao x:Operand}{a:Option Addr}{m c j b:Nat}{B:List (Nat×Blk)}{upd:List (Nat×Blk)→Own}{xs:List α}{z y:α}{v:Value}(hv:Vec R F a m c B xs)(ha:a=some ⟨b,0,none⟩)(hj:xs[j]?=some z)(hop:o.op=.store t ao x)(hw:wantK ops k o=some true)(hd:o.dst=none)
  (hao:evK C k ao=some (.pointer (some ⟨b,j*R.size,none⟩))) (hx:evK C k x=some v) (hy:R.rel F v.cells.toList y) (hp:own[p]?=some B) (hupd:∀B',setO own p B'=some (upd B')) (hm:sizeT T t=some R.size)
  (h:∀B',Vec R F a m c B' (xs.set j y)→WT C n ops rest k F (upd B') (fun k2 F2 own2 rs=>Q k2 F2 own2 (⟨F,own,F,upd B',[b]⟩::rs))) :
  WT C n ops (o::rest) k F own Q:=by
 obtain⟨i,cs,h1,h2,h3,h4⟩:=hv.at_ hj;have h1':=h1;rw[ha] at h1';injection h1' with h1';injection h1' with h1';subst h1';have hset:=hv.set h2 hj hy;subst h2;have hlt:=(List.getElem?_eq_some_iff.1 hj).1;have hcl:=h3.len;have hmul:j*R.size+R.size≤cs.length:=by
  rw[hcl,←Nat.succ_mul];exact Nat.mul_le_mul_right _ hlt
 refine WT.store (C:=C) (n:=n) (k:=k) (F:=F) (Q:=Q) (rest:=rest) (ops:=ops) p 0 hop hw hao hx hp rfl (sizeT_ok hT hm) (R.len _ _ _ hy) (R.one _ _ _ hy) hmul ?_;rw[hd];have e:=setO_ok _ _ _ _ (hupd [(b,.cells false (spliceL cs (j*R.size) v.cells.toList))]);simp only[List.set_cons_zero];rw[e];exact h _ hset
end
end Go.Abs
/-
 Slices compared with nil,appended to an empty literal,copied into own blocks;numbers of 64 bits without sign.
-/
set_option linter.unusedVariables false
namespace Go.Abs
open Go
section
variable {C:Ctx}{T:RT}{n:Nat}{k:Kno}{F:Frz}{own:Own}{ops rest:List Oper}{o:Oper}{Q:Kno→Frz→Own→List Rec→Prop}{α:Type}{R:Ty α}
theorem WT.sliceNil(hT:rowsOk C T=true){t ty:TypeId}{xo yo:Operand}{a:Option Addr}{m c e:Nat}{r:Row}(hop:o.op=.binOp .eql t xo yo ty)(hw:wantK ops k o=some true){dst:Nat}(hdst:o.dst=some dst)(hn:Nat.blt dst n=true)
  (hx:evK C k xo=some (.slice a m c)) (hy:evK C k yo=some (.slice none 0 0)) (hr:rowOf T t=some r) (hd:r.d=.slice e)
  (h:WT C n ops rest ((dst,.bool a.isNone)::k) F own (fun k2 F2 own2 rs=>Q k2 F2 own2 (⟨F,own,F,own,[]⟩::rs))):WT C n ops (o::rest) k F own Q:=by
 refine WT.still hw (by rw[hop];simp only[looksK,hx,hy];rfl) (fun h0 _=>?_) (by rw[hdst,putK_some hn];exact h);rw[hop];have hu:=und_slice hT hr hd;cases a<;>simp only[opA,hx,hy,binA,eqLets,cond_true,equalA,hu]<;>rfl
theorem und_pointer(hT:rowsOk C T=true){t e:Nat}{r:Row}(q:rowOf T t=some r)(hd:r.d=.pointer e):C.und t=some (.pointer e):=by
 obtain⟨_,_,_,_,d,h4,h5⟩:=rowOf_ok hT q;rw[hd] at h5;cases d<;>simp only[shapeOk] at h5<;>try (exact absurd h5 (by decide))
 rw[h4,Nat.eq_of_beq_eq_true h5]
theorem WT.appendE(hT:rowsOk C T=true){p0:Addr}{d by_:Nat}{ys:List α}{ds:List Value}{t e:Nat}{ts:List TypeId}{r:Row}{z x:Value}{xo so:Operand}
  (hsp:p0.spot=none) (hop:o.op=.call ⟨.builtin .append,⟨[so,xo]⟩,⟨t::ts⟩⟩) (hw:wantK ops k o=some true) {dst:Nat} (hdst:o.dst=some dst) (hn:Nat.blt dst n=true)
  (hs:evK C k so=some (.slice (some p0) 0 0)) (hx:evK C k xo=some x) (hr:rowOf T t=some r) (hd:r.d=.slice e) (hsz:sizeT T e=some R.size) (hz:zeroT T e=some z) (hby:bytesT T e=some by_)
  (hnew:∀h,St F own h→newsA C h e R.size ts.head? x=some (d,ds)) (hds:Cells R F ds ys) (hlen:d=ys.length) (hpos:0<R.size∧0<by_) (hroom:d*by_≤140737488355328)
  (h:∀a' c' B',Vec R F a' d c' B' ys→(ys=[]→a'=some p0)→WT C n ops rest ((dst,(.slice a' d c'))::k) F (B'::own) (fun k2 F2 own2 rs=>Q k2 F2 own2 (⟨F,own,F,B'::own,[]⟩::rs))) :
  WT C n ops (o::rest) k F own Q:=by
 obtain⟨b0,off0,sp0⟩:=p0;have:sp0=none:=hsp;subst this;have hl:looksK (evK C k) o.op=some []:=by rw[hop];rfl
 have hv:vals (evK C k) [so,xo]=some [.slice (some ⟨b0,off0,none⟩) 0 0,x]:=by simp[vals,hs,hx]
 have hcond:(!(ds.length==d*R.size&&ds.all one&&Nat.blt 0 R.size&&Nat.blt 0 by_&&Nat.ble ((0+d)*by_) 140737488355328))=false:=by
  have h1:(ds.length==d*R.size)=true:=by rw[hds.len,hlen];simp
  have h2:Nat.blt 0 R.size=true:=Nat.ble_eq_true_of_le hpos.1;have h3:Nat.blt 0 by_=true:=Nat.ble_eq_true_of_le hpos.2;have h4:Nat.ble ((0+d)*by_) 140737488355328=true:=Nat.ble_eq_true_of_le (by rw[Nat.zero_add];exact hroom);rw[h1,h2,h3,h4,hds.one];rfl
 by_cases hd0:d=0
 ·subst hd0;have hy0:ys=[]:=List.eq_nil_of_length_eq_zero hlen.symm;subst hy0
  refine WT.step (l:=[]) hl fun e0 h0 hk hs0=>⟨.slice (some ⟨b0,off0,none⟩) 0 0,h0,F,[]::own,⟨0,fun N _=>?_⟩,Frz.le.refl F,hs0.le (OwnLe.flat (List.Perm.refl _)),by
   rw[hdst,putK_some hn];exact h _ _ [] ⟨rfl,.inl rfl,fun _=>rfl,fun h=>(by cases h),fun p hp=>(by cases hp;rfl),.inl rfl⟩ (fun _=>rfl)⟩
  refine step_val hk hw ?_ _;rw[hop];simp only[opA,hv,builtinA,appendA,und_slice hT hr hd,sizeT_ok hT hsz,zeroT_ok hT hz,bytesT_ok hT hby,hnew h0 hs0,hcond,cond_false];simp
 ·have hd1:(d==0)=false:=by simpa using hd0
  refine WT.new (mk:=fun i=>.slice (some ⟨i,0,none⟩) d R.size) (b:=.cells false ds) hw hl (fun h0 s0=>?_) (fun i hi=>?_)
  ·rw[hop];simp only[opA,hv,builtinA,appendA,und_slice hT hr hd,sizeT_ok hT hsz,zeroT_ok hT hz,bytesT_ok hT hby,hnew h0 s0,hcond,hd1,cond_false];simp
  ·rw[hdst,putK_some hn];refine h _ _ _ ⟨hlen,.inr rfl,fun h=>?_,fun h=>(by cases h),fun p hp=>(by cases hp;rfl),.inr ⟨i,ds,rfl,rfl,hds,hpos.1⟩⟩ (fun h=>?_)
   ·have:=hpos.1;omega
   ·subst h;simp at hlen;omega
theorem arr_cells{F:Frz}{a:Option Addr}{n c:Nat}{xs:List α}(hx:Arr R F a n c xs)(hn:0<n) :
  ∃b off ro cs ds,a=some ⟨b,off,none⟩∧F b=some (.cells ro cs)∧partL cs off (n*R.size)=some ds∧Cells R F ds xs:=by
 have partOk:∀{cs:List Value} {off n:Nat} {l:List Value},partL cs off n=some l→l=(cs.drop off).take n∧l.length=n:=by
  intro cs off n l h;unfold partL at h;cases e:(((cs.drop off).take n).length==n) with
  | false=>simp only[e,cond_false] at h;cases h
  | true=>
   simp only[e,cond_true] at h;obtain rfl:=Option.some.inj h;exact⟨rfl,eq_of_beq e⟩
 have partApp:∀{cs:List Value} {off n m:Nat} {l1 l2:List Value},partL cs off n=some l1→partL cs (off+n) m=some l2→partL cs off (n+m)=some (l1++l2):=by
  intro cs off n m l1 l2 h1 h2;obtain⟨e1,k1⟩:=partOk h1;obtain⟨e2,k2⟩:=partOk h2;have e:(cs.drop off).take (n+m)=l1++l2:=by rw[List.take_add,List.drop_drop,←e1,←e2]
  unfold partL;simp only[e];have:((l1++l2).length==n+m)=true:=by simp[k1,k2]
  rw[this];rfl
 have hl:=hx.len;obtain⟨x0,h0⟩:∃x,xs[0]?=some x:=⟨_,List.getElem?_eq_getElem (by omega)⟩;obtain⟨b,off,ro,cs,l,h1,h2,h3,h4⟩:=hx.el 0 x0 h0;have main:∀k,k≤xs.length→0<k→∃ds,partL cs off (k*R.size)=some ds∧Cells R F ds (xs.take k):=by
  intro k
  induction k with
  | zero=>intro _ h;omega
  | succ k ih=>
   intro hk _;obtain⟨y,hy⟩:∃x,xs[k]?=some x:=⟨_,List.getElem?_eq_getElem (by omega)⟩;obtain⟨b',off',ro',cs',l',g1,g2,g3,g4⟩:=hx.el k y hy;rw[h1] at g1;injection g1 with g1;injection g1 with g1 g1';subst g1;subst g1';rw[h2] at g2;injection g2 with g2;injection g2 with g2 g2';subst g2';have ht:xs.take (k+1)=xs.take k++[y]:=by rw[List.take_add_one,hy];rfl
   rw[ht];by_cases hk0:k=0
   ·subst hk0;exact⟨l',by simpa using g3,by simpa using Cells.single g4⟩
   ·obtain⟨ds,d1,d2⟩:=ih (by omega) (by omega);exact⟨ds++l',by rw[Nat.add_mul,Nat.one_mul];exact partApp d1 g3,d2.append (Cells.single g4)⟩
 obtain⟨ds,d1,d2⟩:=main n (by omega) hn;rw[hl,List.take_length] at d2;exact⟨b,off,ro,cs,ds,h1,h2,d1,d2⟩
theorem news_arr(hT:rowsOk C T=true){a:Option Addr}{m c t e':Nat}{r:Row}{xs:List α}(hx:Arr R F a m c xs)(hr:rowOf T t=some r)(hd:r.d=.slice e')(e:TypeId) :
  ∃ds,(∀(own:Own) h,St F own h→newsA C h e R.size (some t) (.slice a m c)=some (m,ds))∧Cells R F ds xs:=by
 by_cases hm:m=0
 ·subst hm;have:xs=[]:=List.eq_nil_of_length_eq_zero hx.len.symm;subst this;refine⟨[],fun own h s=>?_,.nil⟩;cases a with
  | none=>simp only[newsA,und_slice hT hr hd,plainNewsA,lenOfA,firstA];rfl
  | some p=>
   obtain⟨b,off,sp⟩:=p;have:sp=none:=hx.spot _ rfl;subst this;simp only[newsA,und_slice hT hr hd,plainNewsA,lenOfA,firstA];rfl
 ·obtain⟨b,off,ro,cs,ds,rfl,h2,h3,h4⟩:=arr_cells hx (by omega);refine⟨ds,fun own h s=>?_,h4⟩;have hb:=s.frz _ _ h2;simp only[newsA,und_slice hT hr hd,plainNewsA,lenOfA,firstA,cellsAt,hb,h3,show (m==0)=false by simpa using hm];rfl
end
end Go.Abs
/-
 Numbers of 64 bits without sign;copies into own blocks.
-/
set_option linter.unusedVariables false
namespace Go.Abs
open Go
theorem wrapU64{x:Int}(h:0≤x∧x<18446744073709551616):IntKind.u64.wrap x=x:=by
 unfold IntKind.wrap;have hs:IntKind.u64.signed=false:=rfl;have hb:IntKind.u64.bits=64:=rfl;have:(2:Int) ^ 64=18446744073709551616:=rfl;simp only[hs,hb,Bool.false_and,this];exact Int.emod_eq_of_lt h.1 h.2
theorem wrapU64_mod(x:Nat):IntKind.u64.wrap (x:Int)=((x % 18446744073709551616:Nat):Int):=by
 unfold IntKind.wrap;have hs:IntKind.u64.signed=false:=rfl;have hb:IntKind.u64.bits=64:=rfl;have:(2:Int) ^ 64=18446744073709551616:=rfl;simp only[hs,hb,Bool.false_and,this];simp
theorem bv64{x:Nat}(h:x<18446744073709551616):(BitVec.ofInt 64 (x:Int)).toNat=x:=by
 rw[BitVec.toNat_ofInt];omega
section
variable {C:Ctx}{T:RT}{n:Nat}{k:Kno}{F:Frz}{own:Own}{ops rest:List Oper}{o:Oper}{Q:Kno→Frz→Own→List Rec→Prop}{α:Type}{R:Ty α}
theorem WT.binV{op:BinOp}{t ty:TypeId}{xo yo:Operand}{kd:IntKind}{x y:Int}{v:Value}(hop:o.op=.binOp op t xo yo ty)(hw:wantK ops k o=some true){dst:Nat}(hdst:o.dst=some dst)(hn:Nat.blt dst n=true)(hx:evK C k xo=some (.int kd x))(hy:evK C k yo=some (.int kd y))
  (hsh:op≠.shl∧op≠.shr) (hr:intBinA op kd x y=some v)
  (h:WT C n ops rest ((dst,v)::k) F own (fun k2 F2 own2 rs=>Q k2 F2 own2 (⟨F,own,F,own,[]⟩::rs))):WT C n ops (o::rest) k F own Q:=by
 refine WT.bin hop hw hx hy ?_ hsh (by rw[hdst,putK_some hn];exact h);cases op<;>first | exact absurd rfl hsh.1 | exact absurd rfl hsh.2 | (simp only[binA,if_true];exact hr)
theorem WT.shV{op:BinOp}{t ty:TypeId}{xo yo:Operand}{kd kd2:IntKind}{x y:Int}{v:Value}(hop:o.op=.binOp op t xo yo ty)(hw:wantK ops k o=some true){dst:Nat}(hdst:o.dst=some dst)(hn:Nat.blt dst n=true)(hx:evK C k xo=some (.int kd x))(hy:evK C k yo=some (.int kd2 y))
  (hsh:op=.shl∨op=.shr) (hr:shiftA op kd x y=some v)
  (h:WT C n ops rest ((dst,v)::k) F own (fun k2 F2 own2 rs=>Q k2 F2 own2 (⟨F,own,F,own,[]⟩::rs))):WT C n ops (o::rest) k F own Q:=by
 have hput:∀v,((dst,v)::k:Kno)=putK n k o.dst v:=fun v=>by rw[hdst,putK_some hn]
 rw[hput] at h;refine WT.still (l:=[]) hw (by rw[hop];simp only[looksK,hx,hy];rfl) (fun h0 _=>?_) h;rw[hop];rcases hsh with rfl | rfl<;>simp only[opA,hx,hy,binA,hr]<;>rfl
theorem and64{x y:Nat}(hx:x<18446744073709551616)(hy:y<18446744073709551616):intBinA .and .u64 x y=some (.int .u64 ((x &&& y:Nat):Int)):=by
 have hb:IntKind.u64.bits=64:=rfl;have hlt:x &&& y<18446744073709551616:=Nat.lt_of_le_of_lt Nat.and_le_left hx;show some (Value.int .u64 (IntKind.u64.wrap ((BitVec.ofInt IntKind.u64.bits (x:Int) &&& BitVec.ofInt IntKind.u64.bits (y:Int)).toNat:Int)))=_;rw[hb,BitVec.toNat_and,bv64 hx,bv64 hy,wrapU64 (by omega)]
theorem xor64{x y:Nat}(hx:x<18446744073709551616)(hy:y<18446744073709551616):intBinA .xor .u64 x y=some (.int .u64 ((x ^^^ y:Nat):Int)):=by
 have hb:IntKind.u64.bits=64:=rfl;have hlt:x ^^^ y<2 ^ 64:=Nat.xor_lt_two_pow hx hy;have h2:(2:Nat) ^ 64=18446744073709551616:=rfl;rw[h2] at hlt;show some (Value.int .u64 (IntKind.u64.wrap ((BitVec.ofInt IntKind.u64.bits (x:Int) ^^^ BitVec.ofInt IntKind.u64.bits (y:Int)).toNat:Int)))=_;rw[hb,BitVec.toNat_xor,bv64 hx,bv64 hy,wrapU64 (by omega)]
theorem sub64{x y:Nat}(hx:x<18446744073709551616)(h:y≤x):intBinA .sub .u64 x y=some (.int .u64 ((x-y:Nat):Int)):=by
 simp only[intBinA];rw[wrapU64 (by omega)];congr 2;omega
theorem shr64{x y:Nat}(hy:y≤64):shiftA .shr .u64 x y=some (.int .u64 ((x / 2 ^ y:Nat):Int)):=by
 have hb:IntKind.u64.bits=64:=rfl;unfold shiftA;rw[if_neg (by omega)];simp only[hb,Int.toNat_natCast,Nat.min_eq_left hy];congr 2;rw[Int.natCast_ediv,Int.natCast_pow];exact Int.fdiv_eq_ediv_of_nonneg _ (Int.pow_nonneg (by decide))
theorem shl64{x y:Nat}(hy:y≤64):shiftA .shl .u64 x y=some (.int .u64 (((x*2 ^ y) % 18446744073709551616:Nat):Int)):=by
 have hb:IntKind.u64.bits=64:=rfl;unfold shiftA;rw[if_neg (by omega)];simp only[hb,Int.toNat_natCast,Nat.min_eq_left hy];rw[show (x:Int)*2 ^ y=((x*2 ^ y:Nat):Int) by simp,wrapU64_mod]
end
end Go.Abs
namespace Go.Abs
open Go
theorem sliceA_some{C:Ctx}{T:RT}(hT:rowsOk C T=true){t e s:Nat}{r:Row}(hr:rowOf T t=some r)(hd:r.d=.slice e)(hs:sizeT T e=some s){b off len c lo hi:Nat}{vlo vhi:Option Value}(h1:boundA vlo 0=some lo)(h2:boundA vhi len=some hi)(hlo:lo≤hi)(hhi:hi≤len)(hc:c=0∨c=s)(h:Heap) :
  sliceA C h t (.slice (some ⟨b,off,none⟩) len c) vlo vhi none=some (.slice (some ⟨b,off+lo*s,none⟩) (hi-lo) c):=by
 have e1:Nat.ble lo hi=true:=Nat.ble_eq_true_of_le hlo;have e2:Nat.ble hi len=true:=Nat.ble_eq_true_of_le hhi;have e3:(c==0||c==s)=true:=by rcases hc with rfl | rfl<;>simp
 simp only[sliceA,und_slice hT hr hd,sizeT_ok hT hs,h1,h2,e1,e2,e3,Bool.and_self,cond_true]
end Go.Abs
namespace Go.Abs
open Go
def jnQ{S:Type}(chg:S→Kno)(k:Kno)(ow:S→Own)(P:S→Frz→Prop)(A:Ex→Kno→Frz→Own→Prop):Ex→Kno→Frz→Own→Prop
 | .normal,k',F',own'=>∃s,SubK (chg s++k) k'∧OwnLe (ow s) own'∧P s F'
 | x,k',F',own'=>A x k' F' own'
theorem AW.jn{C:Ctx}{n:Nat}{k:Kno}{F:Frz}{own:Own}{A:Ex→Kno→Frz→Own→Prop}{S:Type}(chg:S→Kno)(ow:S→Own)(P:S→Frz→Prop){a b:Code}(h1:AW C n a k F own (jnQ chg k ow P A))
  (h2:∀s F',Frz.le F F'→P s F'→AW C n b (chg s++k) F' (ow s) A):AW C n (.seq a b) k F own A:=
 AW.seq (AW.mono h1 fun x k' F' own' hF hx=>by
  cases x with
  | normal=>
   obtain⟨s,q1,q2,q3⟩:=hx;exact AW.weaken q1 (AW.le q2 (h2 s F' hF q3))
  | exit id=>exact hx
  | ret=>exact hx)
theorem AW.jnT{C:Ctx}{n:Nat}{k:Kno}{F:Frz}{own:Own}{A:Ex→Kno→Frz→Own→Prop}{S:Type}(chg:S→Kno)(ow:S→Own)(P:S→Frz→Prop){a b:Code}(h1:AW C n a k F own (jnQ chg k ow P A))
  (h2:∀s F',Frz.le F F'→P s F'→AW C n b (chg s++k) F' (ow s) A):AW C n a k F own (thenQ (fun k' F' own'=>AW C n b k' F' own' A) A):=
 AW.mono h1 fun x k' F' own' hF hx=>by
  cases x with
  | normal=>
   obtain⟨s,q1,q2,q3⟩:=hx;exact AW.weaken q1 (AW.le q2 (h2 s F' hF q3))
  | exit id=>exact hx
  | ret=>exact hx
end Go.Abs
/-
 Clearing a part of an own block;cells split in two.
-/
set_option linter.unusedVariables false
namespace Go.Abs
open Go
section
variable {α:Type}{R:Ty α}{F:Frz}
theorem Cells.split:∀{xs ys:List α} {cs:List Value},Cells R F cs (xs++ys)→∃c1 c2,cs=c1++c2∧Cells R F c1 xs∧Cells R F c2 ys
 | [],ys,cs,h=>⟨[],cs,rfl,.nil,h⟩
 | x::xs,ys,cs,h=>by
  cases h with
  | cons h1 h2=>
   rename_i l cs1;obtain⟨c1,c2,rfl,h3,h4⟩:=Cells.split (xs:=xs) h2;exact⟨l++c1,c2,by simp,.cons h1 h3,h4⟩
theorem Cells.rows{l:List Value}{x:α}(h:R.rel F l x):∀n,Cells R F (rowsL l n) (List.replicate n x)
 | 0=>.nil
 | n+1=>.cons h (Cells.rows h n)
theorem Cells.wipe{l:List Value}{x:α}(h:R.rel F l x){xs:List α}{cs:List Value}(hc:Cells R F cs xs){i n:Nat}(hi:i+n=xs.length) :
  Cells R F (spliceL cs (i*R.size) (rowsL l n)) (xs.take i++List.replicate n x):=by
 rw[←List.take_append_drop i xs] at hc;obtain⟨c1,c2,rfl,h1,h2⟩:=hc.split;have l1:=h1.len;have l2:=h2.len;have l3:=(Cells.rows (n:=n) h).len;rw[List.length_replicate] at l3;have e1:c1.length=i*R.size:=by rw[l1,List.length_take,Nat.min_eq_left (by omega)]
 have e:spliceL (c1++c2) (i*R.size) (rowsL l n)=c1++rowsL l n:=by
  unfold spliceL;rw[←e1,List.take_left,List.drop_of_length_le]
  ·simp
  ·rw[List.length_append,l2,l3,List.length_drop];have:xs.length-i=n:=by omega
   rw[this];omega
 rw[e];exact h1.append (Cells.rows h n)
end
section
variable {C:Ctx}{T:RT}{n:Nat}{k:Kno}{F:Frz}{own:Own}{ops rest:List Oper}{o:Oper}{Q:Kno→Frz→Own→List Rec→Prop}{α:Type}{R:Ty α}
theorem WT.vclear(hT:rowsOk C T=true)(p:Nat){t e:Nat}{ts:List TypeId}{r:Row}{xo:Operand}{a:Option Addr}{b m c c2 i l:Nat}{B:List (Nat×Blk)}{upd:List (Nat×Blk)→Own}{xs:List α}{x0:α}{z:Value}(hv:Vec R F a m c B xs)(ha:a=some ⟨b,0,none⟩)(hop:o.op=.call ⟨.builtin .clear,⟨[xo]⟩,⟨t::ts⟩⟩)(hw:wantK ops k o=some true)(hdst:o.dst=none)
  (hx:evK C k xo=some (.slice (some ⟨b,0+i*R.size,none⟩) l c2)) (hr:rowOf T t=some r) (hde:r.d=.slice e) (hz:zeroT T e=some z) (hz0:R.rel F z.cells.toList x0) (hl:i+l=m) (hpos:0<l) (hp:own[p]?=some B) (hupd:∀B',setO own p B'=some (upd B'))
  (h:∀B',Vec R F a m c B' (xs.take i++List.replicate l x0)→WT C n ops rest k F (upd B') (fun k2 F2 own2 rs=>Q k2 F2 own2 (⟨F,own,F,upd B',[]⟩::rs))):WT C n ops (o::rest) k F own Q:=by
 have hlen:=hv.len;obtain⟨x,hx0⟩:∃x,xs[0]?=some x:=⟨_,List.getElem?_eq_getElem (by omega)⟩;obtain⟨i',cs,h1,rfl,h3,h4⟩:=hv.at_ hx0;rw[ha] at h1;injection h1 with h1;injection h1 with h1;subst h1;have hlk:looksK (evK C k) o.op=some []:=by rw[hop];rfl
 have hvs:vals (evK C k) [xo]=some [.slice (some ⟨b,0+i*R.size,none⟩) l c2]:=by simp[vals,hx]
 have hwipe:=h3.wipe hz0 (i:=i) (n:=l) (by omega);have hrl:=(Cells.rows (n:=l) hz0).len;rw[List.length_replicate] at hrl;have hcl:=h3.len;have hfit:(0+i*R.size)+(rowsL z.cells.toList l).length≤cs.length:=by
  rw[hrl,hcl,←hlen,←hl,Nat.add_mul];omega
 have e2:=setO_ok _ _ _ _ (hupd [(b,.cells false (spliceL cs (i*R.size) (rowsL z.cells.toList l)))]);refine WT.step (l:=[]) hlk fun e0 h0 hk hs0=>?_;have hb:=hs0.has hp (List.mem_cons_self ..);refine⟨undefA,h0.put b (some (.cells false (spliceL cs (i*R.size) (rowsL z.cells.toList l)))),F,upd [(b,.cells false (spliceL cs (i*R.size) (rowsL z.cells.toList l)))],⟨0,fun N _=>?_⟩,Frz.le.refl F,?_,?_⟩
 ·refine step_val hk hw ?_ _;rw[hop];have h5:(rowsL z.cells.toList l).all one=true:=(Cells.rows hz0 l).one;have h6:Nat.ble (i*R.size+(rowsL z.cells.toList l).length) cs.length=true:=Nat.ble_eq_true_of_le (by rw[Nat.zero_add] at hfit;exact hfit);cases l with
  | zero=>omega
  | succ l=>
   simp only[opA,hvs,builtinA,clearA,und_slice hT hr hde,zeroT_ok hT hz,hb,Nat.zero_add,h5,h6,Bool.and_self,cond_true];rfl
 ·have:=hs0.put hp (q:=0) rfl (.cells false (spliceL cs (i*R.size) (rowsL z.cells.toList l)));simp only[List.set_cons_zero] at this;rw[e2] at this;exact this
 ·rw[hdst];exact h _ ⟨by simp;omega,hv.cap,hv.zero,hv.nil,hv.spot,.inr ⟨b,_,ha,rfl,hwipe,h4⟩⟩
end
end Go.Abs
/-
 Vectors inside a greater slot: read where they lie.
-/
set_option linter.unusedVariables false
namespace Go.Abs
open Go
section
variable {C:Ctx}{T:RT}{n:Nat}{k:Kno}{F:Frz}{own:Own}{ops rest:List Oper}{o:Oper}{Q:Kno→Frz→Own→List Rec→Prop}{α:Type}{R:Ty α}
end
theorem nodup_lt:∀(n:Nat) (l:List Nat),l.Nodup→(∀x∈l,x<n)→l.length≤n
 | 0,l,_,h=>by
  cases l with
  | nil=>simp
  | cons x l=>exact absurd (h x (List.mem_cons_self ..)) (Nat.not_lt_zero _)
 | n+1,l,hn,h=>by
  have h1:=nodup_lt n (l.erase n) (hn.erase n) (fun x hx=>by
   have h2:=h x (List.mem_of_mem_erase hx);have h3:x≠n:=by
    rintro rfl;exact(List.Nodup.not_mem_erase hn) hx
   omega)
  rw[List.length_erase] at h1;split at h1<;>omega
end Go.Abs
/-
 Sums and differences of naturals.
-/
set_option linter.unusedVariables false
namespace Go.Abs
open Go
section
variable {C:Ctx}{n:Nat}{k:Kno}{F:Frz}{own:Own}{ops rest:List Oper}{o:Oper}{Q:Kno→Frz→Own→List Rec→Prop}
theorem WT.add1{d:Nat}{t ty:TypeId}{xo yo:Operand}{x:Nat}(hop:o.op=.binOp .add t xo yo ty)(hw:wantK ops k o=some true)(hd:o.dst=some d)(hn:Nat.blt d n=true)(hx:evK C k xo=some (.int .i64 (x:Nat)))(hy:evK C k yo=some (.int .i64 1))(hb:x≤9223372036854775806)
  (h:WT C n ops rest ((d,.int .i64 ((x+1:Nat):Int))::k) F own (fun k2 F2 own2 rs=>Q k2 F2 own2 (⟨F,own,F,own,[]⟩::rs))):WT C n ops (o::rest) k F own Q:=
 WT.addT hop hw hd hn hx hy (by omega) (by rw[Int.natCast_add] at h;exact h)
theorem WT.addN{d:Nat}{t ty:TypeId}{xo yo:Operand}{x y:Nat}(hop:o.op=.binOp .add t xo yo ty)(hw:wantK ops k o=some true)(hd:o.dst=some d)(hn:Nat.blt d n=true)(hx:evK C k xo=some (.int .i64 (x:Nat)))(hy:evK C k yo=some (.int .i64 (y:Nat)))(hb:x+y≤9223372036854775807)
  (h:WT C n ops rest ((d,.int .i64 ((x+y:Nat):Int))::k) F own (fun k2 F2 own2 rs=>Q k2 F2 own2 (⟨F,own,F,own,[]⟩::rs))):WT C n ops (o::rest) k F own Q:=
 WT.addT hop hw hd hn hx hy (by omega) (by rw[Int.natCast_add] at h;exact h)
theorem WT.sub1{d:Nat}{t ty:TypeId}{xo yo:Operand}{x:Nat}(hop:o.op=.binOp .sub t xo yo ty)(hw:wantK ops k o=some true)(hd:o.dst=some d)(hn:Nat.blt d n=true)(hx:evK C k xo=some (.int .i64 (x:Nat)))(hy:evK C k yo=some (.int .i64 1))(hb:1≤x∧x≤9223372036854775807)
  (h:WT C n ops rest ((d,.int .i64 ((x-1:Nat):Int))::k) F own (fun k2 F2 own2 rs=>Q k2 F2 own2 (⟨F,own,F,own,[]⟩::rs))):WT C n ops (o::rest) k F own Q:=
 WT.subT hop hw hd hn hx hy (by omega) (by rw[show ((x-1:Nat):Int)=(x:Int)-1 by omega] at h;exact h)
theorem WT.subN{d:Nat}{t ty:TypeId}{xo yo:Operand}{x y:Nat}(hop:o.op=.binOp .sub t xo yo ty)(hw:wantK ops k o=some true)(hd:o.dst=some d)(hn:Nat.blt d n=true)(hx:evK C k xo=some (.int .i64 (x:Nat)))(hy:evK C k yo=some (.int .i64 (y:Nat)))(hb:y≤x∧x≤9223372036854775807)
  (h:WT C n ops rest ((d,.int .i64 ((x-y:Nat):Int))::k) F own (fun k2 F2 own2 rs=>Q k2 F2 own2 (⟨F,own,F,own,[]⟩::rs))):WT C n ops (o::rest) k F own Q:=
 WT.subT hop hw hd hn hx hy (by omega) (by rw[show ((x-y:Nat):Int)=(x:Int)-(y:Int) by omega] at h;exact h)
theorem WT.mul2{d:Nat}{t ty:TypeId}{xo yo:Operand}{x:Nat}(hop:o.op=.binOp .mul t xo yo ty)(hw:wantK ops k o=some true)(hd:o.dst=some d)(hn:Nat.blt d n=true)(hx:evK C k xo=some (.int .i64 2))(hy:evK C k yo=some (.int .i64 (x:Nat)))(hb:2*x≤9223372036854775807)
  (h:WT C n ops rest ((d,.int .i64 ((2*x:Nat):Int))::k) F own (fun k2 F2 own2 rs=>Q k2 F2 own2 (⟨F,own,F,own,[]⟩::rs))):WT C n ops (o::rest) k F own Q:=
 WT.mulT hop hw hd hn hx hy (by omega) (by rw[Int.natCast_mul] at h;exact h)
theorem WT.mulL(l:Nat){d:Nat}{t ty:TypeId}{xo yo:Operand}{x:Nat}(hop:o.op=.binOp .mul t xo yo ty)(hw:wantK ops k o=some true)(hd:o.dst=some d)(hn:Nat.blt d n=true)(hx:evK C k xo=some (.int .i64 (x:Nat)))(hy:evK C k yo=some (.int .i64 (l:Nat)))(hb:x*l≤9223372036854775807)
  (h:WT C n ops rest ((d,.int .i64 ((x*l:Nat):Int))::k) F own (fun k2 F2 own2 rs=>Q k2 F2 own2 (⟨F,own,F,own,[]⟩::rs))):WT C n ops (o::rest) k F own Q:=
 WT.mulT hop hw hd hn hx hy (by rw[←Int.natCast_mul];omega) (by rw[Int.natCast_mul] at h;exact h)
theorem WT.quoL(l:Nat){d:Nat}{t ty:TypeId}{xo yo:Operand}{x:Nat}(hop:o.op=.binOp .quo t xo yo ty)(hw:wantK ops k o=some true)(hd:o.dst=some d)(hn:Nat.blt d n=true)(hx:evK C k xo=some (.int .i64 (x:Nat)))(hy:evK C k yo=some (.int .i64 (l:Nat)))(hl:0<l)(hb:x≤9223372036854775807)
  (h:WT C n ops rest ((d,.int .i64 ((x / l:Nat):Int))::k) F own (fun k2 F2 own2 rs=>Q k2 F2 own2 (⟨F,own,F,own,[]⟩::rs))):WT C n ops (o::rest) k F own Q:=by
 have h1:x / l≤x:=Nat.div_le_self _ _;have h2:Int.tdiv (x:Int) (l:Int)=((x / l:Nat):Int):=by rw[Int.tdiv_eq_ediv_of_nonneg (by omega),Int.natCast_ediv]
 generalize x / l=q at h1 h2 h;refine WT.bin (r:=.int .i64 (q:Int)) hop hw hx hy ?_ (by simp) (by rw[hd,putK_some hn];exact h);simp only[binA,if_true,intBinA];rw[if_neg (by omega),h2,wrap64 (by omega)]
end
end Go.Abs
/-
 A whole element that lies in a frozen block is read.
-/
set_option linter.unusedVariables false
namespace Go.Abs
open Go
section
variable {C:Ctx}{T:RT}{n:Nat}{k:Kno}{F:Frz}{own:Own}{ops rest:List Oper}{o:Oper}{Q:Kno→Frz→Own→List Rec→Prop}
theorem WT.loadS(hT:rowsOk C T=true){t:TypeId}{ao:Operand}{b off m:Nat}{ro:Bool}{cs l:List Value}{r:Row}(hb:F b=some (.cells ro cs))(hp:partL cs off m=some l)(hop:o.op=.load t ao)(hw:wantK ops k o=some true){dst:Nat}(hdst:o.dst=some dst)(hn:Nat.blt dst n=true)
  (ha:evK C k ao=some (.pointer (some ⟨b,off,none⟩))) (hr:rowOf T t=some r) (hd:r.d.agg=true) (hm:r.size=m)
  (h:WT C n ops rest ((dst,.agg ⟨l⟩)::k) F own (fun k2 F2 own2 rs=>Q k2 F2 own2 (⟨F,own,F,own,[b]⟩::rs))):WT C n ops (o::rest) k F own Q:=
 WT.loadFrz hop hw ha hb (readA_agg hT hr hd hm hp) (by rw[hdst,putK_some hn];exact h)
end
end Go.Abs
/-
 A byte of a string that stands in the text.
-/
set_option linter.unusedVariables false
namespace Go.Abs
open Go
theorem wrapU8{x:Int}(h:0≤x∧x<256):IntKind.u8.wrap x=x:=by
 unfold IntKind.wrap;have hs:IntKind.u8.signed=false:=rfl;have hb:IntKind.u8.bits=8:=rfl;have:(2:Int) ^ 8=256:=rfl;simp only[hs,hb,Bool.false_and,this];exact Int.emod_eq_of_lt h.1 h.2
section
variable {C:Ctx}{T:RT}{n:Nat}{k:Kno}{F:Frz}{own:Own}{ops rest:List Oper}{o:Oper}{Q:Kno→Frz→Own→List Rec→Prop}
theorem WT.indexStr(hT:rowsOk C T=true){t:TypeId}{xo io:Operand}{s:ByteArray}{j m:Nat}{kd:IntKind}{r:Row}{f:Nat→Nat}(hop:o.op=.index t xo io)(hw:wantK ops k o=some true){dst:Nat}(hdst:o.dst=some dst)(hn:Nat.blt dst n=true)
  (hx:evK C k xo=some (.string s)) (hi:evK C k io=some (.int kd (j:Nat))) (hr:rowOf T t=some r) (hd:r.d=.string) (hj:j<m) (htab:∀j,j<m→(s.data.toList[j]?).map UInt8.toNat=some (f j))
  (h:WT C n ops rest ((dst,.int .u8 (f j:Nat))::k) F own (fun k2 F2 own2 rs=>Q k2 F2 own2 (⟨F,own,F,own,[]⟩::rs))):WT C n ops (o::rest) k F own Q:=by
 refine WT.still (l:=[]) hw (by rw[hop];rfl) (fun h0 _=>?_) (by rw[hdst,putK_some hn];exact h);rw[hop];have h1:=htab j hj;cases hb:s.data.toList[j]? with
 | none=>rw[hb] at h1;cases h1
 | some b=>
  rw[hb] at h1;have h2:b.toNat=f j:=Option.some.inj h1;simp only[opA,hx,hi,indexA,und_string hT hr hd];rw[if_pos (Int.natCast_nonneg j),Int.toNat_natCast,hb];simp[h2]
end
end Go.Abs
/-
 The lesser of two numbers;slices that lie at the beginning of a longer block of one's own.
-/
set_option linter.unusedVariables false
namespace Go.Abs
open Go
structure PBld{α:Type}(R:Ty α)(F:Frz)(b m:Nat)(B:List (Nat×Blk))(xs:List α):Prop where
 len:m=xs.length
 pos:0<R.size
 blk:∃cs old,B=[(b,.cells false cs)]∧partL cs 0 (m*R.size)=some old∧Cells R F old xs
section
variable {α:Type}{R:Ty α}{F G:Frz}{b m:Nat}{B:List (Nat×Blk)}{xs:List α}
theorem partL_eq{cs l:List Value}{off n:Nat}(h:partL cs off n=some l):l=(cs.drop off).take n∧l.length=n:=by
 unfold partL at h;cases e:(((cs.drop off).take n).length==n) with
 | false=>simp only[e,cond_false] at h;cases h
 | true=>
  simp only[e,cond_true] at h;obtain rfl:=Option.some.inj h;exact⟨rfl,eq_of_beq e⟩
theorem partL_of{cs l:List Value}{off n:Nat}(h:l=(cs.drop off).take n)(hl:l.length=n):partL cs off n=some l:=by
 unfold partL;rw[←h];show (bif l.length==n then some l else none)=some l;rw[hl];simp
theorem PBld.mono(h:PBld R F b m B xs)(hF:Frz.le F G):PBld R G b m B xs:=by
 obtain⟨h1,h2,cs,old,h3,h4,h5⟩:=h;exact⟨h1,h2,cs,old,h3,h4,h5.mono hF⟩
end
section
variable {C:Ctx}{T:RT}{n:Nat}{k:Kno}{F:Frz}{own:Own}{ops rest:List Oper}{o:Oper}{Q:Kno→Frz→Own→List Rec→Prop}{α:Type}{R:Ty α}
end
end Go.Abs
/-
 Appending to a vector;calls of function values that are handed a slot.
-/
set_option linter.unusedVariables false
namespace Go.Abs
open Go
section
variable {C:Ctx}{T:RT}{n:Nat}{k:Kno}{F:Frz}{own:Own}{ops rest:List Oper}{o:Oper}{Q:Kno→Frz→Own→List Rec→Prop}{α:Type}{R:Ty α}
theorem WT.callC1F(p:Nat){f:FuncId}{fn:Func}{fo:Operand}{as_:Array Operand}{ts:Array TypeId}{args args' first capt:List Value}{B:List (Nat×Blk)}{up:List (Nat×Blk)→Own}{P:Frz→Value→List (Nat×Blk)→Prop}(hf:C.func f=some fn)(hb:fn.body.isSome=true)(hop:o.op=.call ⟨.value fo,as_,ts⟩)
  (hw:wantK ops k o=some true) {dst:Nat} (hdst:o.dst=some dst) (hn:Nat.blt dst n=true) (hfo:evK C k fo=some (.func (.func f) ⟨first⟩ ⟨capt⟩)) (hv:vals (evK C k) as_.toList=some args) (hargs:first++args++capt=args') (hp:own[p]?=some B) (hupd:∀B',setO own p B'=some (up B'))
  (spec:Spec C f args' F [B] fun F' v o=>∃B',o=[B']∧P F' v B')
  (h:∀F' v B',Frz.le F F'→P F' v B'→WT C n ops rest ((dst,v)::k) F' (up B') (fun k2 F2 own2 rs=>Q k2 F2 own2 (⟨F,own,F',up B',[]⟩::rs))) :
  WT C n ops (o::rest) k F own Q:=by
 subst hargs;refine WT.step (l:=[]) (by rw[hop];rfl) fun e h' hk hs=>?_;obtain⟨v,h1,F1,oout,⟨m,hd⟩,hF,hs1,B',rfl,hp'⟩:=spec (own.eraseIdx p) h' (hs.perm (perm_pick hp));have e1:=setO_ok _ _ _ _ (hupd B');refine⟨v,h1,F1,up B',⟨m,fun N hN=>?_⟩,hF,?_,by rw[hdst,putK_some hn];exact h F1 v B' hF hp'⟩
 ·unfold stepA;rw[wantK_ok hk hw];have:opA C (evK C k) h' o.op=some (.call f (first++args++capt)):=by
   rw[hop];simp only[opA,hfo,hv,callA_func hf hb]
  simp only[opA_mono hk.eval this,hd N hN]
 ·rw[←e1];exact hs1.perm (perm_set B' hp).symm
end
end Go.Abs
/-
 Entries of map literals.
-/
set_option linter.unusedVariables false
namespace Go.Abs
open Go
section
variable {C:Ctx}{T:RT}{t:TypeId}{κ:Type}[DecidableEq κ](K:KeyTy C t κ)
variable {n:Nat}{k:Kno}{F:Frz}{own:Own}{ops rest:List Oper}{o:Oper}{Q:Kno→Frz→Own→List Rec→Prop}
theorem WT.mapIns(hT:rowsOk C T=true)(p q:Nat){tm et:TypeId}{mo ko vo:Operand}{i:Nat}{m:Ents κ}{key:κ}{v:Value}{r:Row}{B B':List (Nat×Blk)}{own':Own}(hop:o.op=.insert tm mo ko vo)(hw:wantK ops k o=some true)(hdst:o.dst=none)
  (hm:evK C k mo=some (.map (some i))) (hk:evK C k ko=some (K.key key)) (hv:evK C k vo=some v) (hp:own[p]?=some B) (hq:B[q]?=some (i,Blk.map (entsV K m))) (hr:rowOf T tm=some r) (hd:r.d=.map t et)
  (hB:setB B q (i,.map (entsV K (mset m key v)))=some B') (ho:setO own p B'=some own')
  (h:WT C n ops rest k F own' (fun k2 F2 own2 rs=>Q k2 F2 own2 (⟨F,own,F,own',[]⟩::rs))):WT C n ops (o::rest) k F own Q:=by
 have e1:=setB_ok _ _ _ _ hB;have e2:=setO_ok _ _ _ _ ho;subst e1;subst e2;refine WT.put (v:=undefA) (b':=.map (entsV K (mset m key v))) p q hp hq hw (by rw[hop];rfl) (fun h0 s0 hb=>?_) (by rw[hdst];exact h);rw[hop];rcases findA_ents K key m 0 with ⟨h3,h4⟩ | ⟨j,v2,h3,h4,h5,h6⟩
 ·simp only[opA,hm,hk,hv,mapUpdateA,und_map hT hr hd,hb,alive_ents K m,K.ok,h4,mset_none K key v m h3];rfl
 ·simp only[opA,hm,hk,hv,mapUpdateA,und_map hT hr hd,hb,alive_ents K m,setAlive_ents K,K.ok,h4,Nat.zero_add,h5,sameV_refl,←h6 v];rfl
end
end Go.Abs
/-
 Method calls,interfaces,addresses held against each other;maps with marks of what was deleted;own slices at the beginning of a longer block.
-/
set_option linter.unusedVariables false
namespace Go.Abs
open Go
structure GB{α:Type}(R:Ty α)(F:Frz)(a:Option Addr)(n c:Nat)(B:List (Nat×Blk))(xs:List α):Prop where
 len:n=xs.length
 at_:(xs=[]∧a=none∧c=0∧B=[])∨∃i cs rest,a=some ⟨i,0,none⟩∧c=R.size∧B=[(i,.cells false (cs++rest))]∧Cells R F cs xs∧0<R.size
section
variable {α:Type}{R:Ty α}{F G:Frz}{a:Option Addr}{n c:Nat}{B:List (Nat×Blk)}{xs:List α}
theorem Bld.gb(h:Bld R F a n c B xs):GB R F a n c B xs:=
 ⟨h.len,h.at_.imp id fun ⟨i,cs,h1,h2,h3,h4,h5⟩=>⟨i,cs,[],h1,h2,by rw[List.append_nil];exact h3,h4,h5⟩⟩
theorem GB.mono(h:GB R F a n c B xs)(hF:Frz.le F G):GB R G a n c B xs:=
 ⟨h.len,h.at_.imp id fun ⟨i,cs,rest,h1,h2,h3,h4,h5⟩=>⟨i,cs,rest,h1,h2,h3,h4.mono hF,h5⟩⟩
theorem Cells.take{cs:List Value}{xs:List α}(h:Cells R F cs xs):∀k,k≤xs.length→Cells R F (cs.take (k*R.size)) (xs.take k):=by
 induction h with
 | nil=>intro k hk;simp;exact .nil
 | @cons l cs x xs h1 h2 ih=>
  intro k hk;cases k with
  | zero=>simp;exact .nil
  | succ k=>
   have hl:=R.len _ _ _ h1;have e:(l++cs).take ((k+1)*R.size)=l++cs.take (k*R.size):=by
    rw[show (k+1)*R.size=l.length+k*R.size by rw[hl,Nat.add_mul];omega,List.take_append,List.take_of_length_le (by omega)];congr 1;congr 1;omega
   rw[e,List.take_succ_cons];exact .cons h1 (ih k (by simpa using hk))
theorem GB.take(h:GB R F a n c B xs){k:Nat}(hk:k≤n):GB R F a k c B (xs.take k):=by
 have hl:=h.len;refine⟨by simp;omega,?_⟩;rcases h.at_ with ⟨rfl,h2,h3,h4⟩ | ⟨i,cs,rest,h1,h2,h3,h4,h5⟩
 ·exact .inl ⟨by simp,h2,h3,h4⟩
 ·refine .inr ⟨i,cs.take (k*R.size),cs.drop (k*R.size)++rest,h1,h2,?_,h4.take k (by omega),h5⟩;rw[←List.append_assoc,List.take_append_drop];exact h3
theorem partL_app{cs rest:List Value}{off n:Nat}{l:List Value}(h:partL cs off n=some l):partL (cs++rest) off n=some l:=by
 obtain⟨h1,h2⟩:=partL_eq h;refine partL_of ?_ h2;rcases Nat.eq_zero_or_pos n with h0 | h0
 ·subst h0;rw[h1];simp
 ·have:off+n≤cs.length:=by
   have:=congrArg List.length h1;rw[h2] at this;simp at this;omega
  rw[List.drop_append_of_le_length (by omega),List.take_append_of_le_length (by simp;omega)];exact h1
theorem GB.arr(h:GB R F a n c B xs)(hG:Frz.le F G)(hB:∀i b,(i,b)∈B→G i=some b):Arr R G a n c xs:=by
 have hl:=h.len;rcases h.at_ with ⟨rfl,rfl,rfl,rfl⟩ | ⟨i,cs,rest,rfl,rfl,rfl,h4,h5⟩
 ·have:n=0:=hl;subst this;exact Arr.nil_ R G
 ·refine⟨hl,.inr rfl,fun h=>(by omega),fun h=>(by cases h),fun p hp=>(by cases hp;rfl),fun j x hj=>?_⟩;obtain⟨l,h6,h7⟩:=(h4.mono hG).at j x hj;exact⟨i,0,false,cs++rest,l,rfl,hB i _ (List.mem_cons_self ..),by rw[Nat.zero_add];exact partL_app h6,h7⟩
theorem GB.pbld{i:Nat}(h:GB R F (some ⟨i,0,none⟩) n c B xs):PBld R F i n B xs∧c=R.size:=by
 have hl:=h.len;rcases h.at_ with ⟨_,h2,_,_⟩ | ⟨j,cs,rest,h1,h2,h3,h4,h5⟩
 ·cases h2
 ·cases h1;refine⟨⟨hl,h5,cs++rest,cs,h3,?_,h4⟩,h2⟩;have:=h4.len;refine partL_of ?_ (by rw[this,←hl]);rw[List.drop_zero,List.take_append_of_le_length (by rw[this,←hl];exact Nat.le_refl _),List.take_of_length_le (by rw[this,←hl];exact Nat.le_refl _)]
end
section
variable {C:Ctx}{T:RT}{n:Nat}{k:Kno}{F:Frz}{own:Own}{ops rest:List Oper}{o:Oper}{Q:Kno→Frz→Own→List Rec→Prop}{α:Type}{R:Ty α}
theorem WT.appendG(hT:rowsOk C T=true)(p:Nat){B:List (Nat×Blk)}{upd:List (Nat×Blk)→Own}{a:Option Addr}{m c d by_:Nat}{xs ys:List α}{ds:List Value}{t e:Nat}{ts:List TypeId}{r:Row}{z x:Value}{xo so:Operand}
  (hb:GB R F a m c B xs) (hp:own[p]?=some B) (hupd:∀B',setO own p B'=some (upd B')) (hop:o.op=.call ⟨.builtin .append,⟨[so,xo]⟩,⟨t::ts⟩⟩) (hw:wantK ops k o=some true) {dst:Nat} (hdst:o.dst=some dst) (hn:Nat.blt dst n=true)
  (hs:evK C k so=some (.slice a m c)) (hx:evK C k xo=some x) (hr:rowOf T t=some r) (hd:r.d=.slice e) (hsz:sizeT T e=some R.size) (hz:zeroT T e=some z) (hby:bytesT T e=some by_)
  (hnew:∀h,St F own h→newsA C h e R.size ts.head? x=some (d,ds)) (hds:Cells R F ds ys) (hlen:d=ys.length) (hpos:0<d∧0<R.size∧0<by_) (hroom:(m+d)*by_≤140737488355328)
  (h:∀a' c' B',Bld R F a' (m+d) c' B' (xs++ys)→WT C n ops rest ((dst,.slice a' (m+d) c')::k) F (upd B') (fun k2 F2 own2 rs=>Q k2 F2 own2 (⟨F,own,F,upd B',[]⟩::rs))) :
  WT C n ops (o::rest) k F own Q:=by
 have hm:=hb.len;rcases hb.at_ with ⟨h1,h2,h3,h4⟩ | ⟨i,cs,rst,h1,h2,h3,h4,h5⟩
 ·exact WT.appendT hT p (⟨hm,.inl ⟨h1,h2,h3,h4⟩⟩:Bld R F a m c B xs) hp hupd hop hw hdst hn hs hx hr hd hsz hz hby hnew hds hlen hpos hroom h
 ·subst h1;obtain⟨hpb,hc⟩:=hb.pbld;subst hc;subst h3;have h6:partL (cs++rst) 0 (m*R.size)=some cs:=by
   have:=h4.len;refine partL_of ?_ (by rw[this,←hm]);rw[List.drop_zero,List.take_append_of_le_length (by rw[this,←hm];exact Nat.le_refl _),List.take_of_length_le (by rw[this,←hm];exact Nat.le_refl _)]
  have hl:looksK (evK C k) o.op=some []:=by rw[hop];rfl
  have hv:vals (evK C k) [so,xo]=some [.slice (some ⟨i,0,none⟩) m R.size,x]:=by simp[vals,hs,hx]
  have hcond:(!(ds.length==d*R.size&&ds.all one&&Nat.blt 0 R.size&&Nat.blt 0 by_&&Nat.ble ((m+d)*by_) 140737488355328))=false:=by
   have g1:(ds.length==d*R.size)=true:=by rw[hds.len,hlen];simp
   have g2:Nat.blt 0 R.size=true:=Nat.ble_eq_true_of_le h5;have g3:Nat.blt 0 by_=true:=Nat.ble_eq_true_of_le hpos.2.2;have g4:Nat.ble ((m+d)*by_) 140737488355328=true:=Nat.ble_eq_true_of_le hroom;rw[g1,g2,g3,g4,hds.one];rfl
  have hd1:(d==0)=false:=by simp;omega
  refine WT.move (mk:=fun j=>.slice (some ⟨j,0,none⟩) (m+d) R.size) (b:=.cells false (cs++rst)) (b':=.cells false (cs++ds)) p hp hw hl (fun h0 s0 hg=>?_) (fun j hj=>?_)
  ·rw[hop];have hc0:(R.size==0)=false:=by simp;omega
   have hcc:(!(R.size==R.size))=false:=by simp
   simp only[opA,hv,builtinA,appendA,und_slice hT hr hd,sizeT_ok hT hsz,zeroT_ok hT hz,bytesT_ok hT hby,hnew h0 s0,hcond,hd1,cond_false,hc0,hcc,hg,h6];rfl
  ·rw[hdst,putK_some hn,setO_ok _ _ _ _ (hupd [(j,.cells false (cs++ds))])];exact h _ _ _ ⟨by simp;omega,.inr ⟨j,_,rfl,rfl,rfl,h4.append hds,h5⟩⟩
theorem WT.sliceG(hT:rowsOk C T=true){t e:Nat}{r:Row}{xo hio:Operand}{a:Option Addr}{m c j:Nat}{B:List (Nat×Blk)}{xs:List α}(hb:GB R F a m c B xs)(hop:o.op=.slice t xo none (some hio) none)(hw:wantK ops k o=some true){dst:Nat}(hdst:o.dst=some dst)(hn:Nat.blt dst n=true)
  (hx:evK C k xo=some (.slice a m c)) (hi:evK C k hio=some (.int .i64 (j:Nat))) (hr:rowOf T t=some r) (hd:r.d=.slice e) (hs:sizeT T e=some R.size) (hj:j≤m)
  (h:WT C n ops rest ((dst,.slice a j c)::k) F own (fun k2 F2 own2 rs=>Q k2 F2 own2 (⟨F,own,F,own,[]⟩::rs))):WT C n ops (o::rest) k F own Q:=by
 have hval:∀h0,sliceA C h0 t (.slice a m c) none (some (.int .i64 (j:Nat))) none=some (.slice a j c):=by
  intro h0;have hb2:boundA (some (.int .i64 (j:Nat))) m=some j:=by simp[boundA]
  have hb1:boundA none 0=some 0:=rfl;have e0:Nat.ble 0 j=true:=by simp
  have e1:Nat.ble j m=true:=Nat.ble_eq_true_of_le hj;rcases hb.at_ with ⟨g1,g2,g3,g4⟩ | ⟨i,cs,rst,g1,g2,g3,g4,g5⟩
  ·subst g2;have hm:=hb.len;rw[g1] at hm;have hm:m=0:=hm;subst hm;have:j=0:=by omega
   subst this;subst g3;simp only[sliceA,und_slice hT hr hd,sizeT_ok hT hs,hb1,hb2];rfl
  ·subst g1 g2;simp only[sliceA,und_slice hT hr hd,sizeT_ok hT hs,hb1,hb2,e0,e1];simp
 refine WT.slice (x:=.slice a m c) (vlo:=none) (vhi:=some (.int .i64 (j:Nat))) (l:=[]) hop hw hdst hn (by rw[hop];simp only[looksK,hx]) hx rfl (by simp[optA,hi]) hval h
end
section
variable {C:Ctx}{T:RT}{n:Nat}{k:Kno}{F:Frz}{own:Own}{ops rest:List Oper}{o:Oper}{Q:Kno→Frz→Own→List Rec→Prop}
end
section
variable {C:Ctx}{T:RT}{n:Nat}{k:Kno}{F:Frz}{own:Own}{ops rest:List Oper}{o:Oper}{Q:Kno→Frz→Own→List Rec→Prop}{α:Type}{R:Ty α}
theorem GB.at_pos{a:Option Addr}{m c:Nat}{B:List (Nat×Blk)}{xs:List α}(hv:GB R F a m c B xs){j:Nat}{x:α}(hj:xs[j]?=some x):∃i cs rest,a=some ⟨i,0,none⟩∧c=R.size∧B=[(i,.cells false (cs++rest))]∧Cells R F cs xs∧0<R.size:=
 hv.at_.resolve_left fun h=>by rw[h.1] at hj;simp at hj
theorem WT.gidx(hT:rowsOk C T=true){t e:Nat}{r:Row}{xo io:Operand}{a:Option Addr}{m c:Nat}{B:List (Nat×Blk)}{xs:List α}{kd:IntKind}{j:Nat}(hv:GB R F a m c B xs)(hop:o.op=.indexAddr t xo io)(hw:wantK ops k o=some true){dst:Nat}(hdst:o.dst=some dst)(hn:Nat.blt dst n=true)
  (hx:evK C k xo=some (.slice a m c)) (hi:evK C k io=some (.int kd (j:Nat))) (hr:rowOf T t=some r) (hd:r.d=.slice e) (hs:sizeT T e=some R.size) (hj:j<m)
  (h:∀b,a=some ⟨b,0,none⟩→WT C n ops rest ((dst,.pointer (some ⟨b,0+j*R.size,none⟩))::k) F own (fun k2 F2 own2 rs=>Q k2 F2 own2 (⟨F,own,F,own,[]⟩::rs))):WT C n ops (o::rest) k F own Q:=by
 have hm:=hv.len;obtain⟨i,cs,rst,rfl,rfl,rfl,h4,h5⟩:=hv.at_pos (List.getElem?_eq_getElem (l:=xs) (i:=j) (by omega));exact WT.idxA hT hop hw hdst hn hx hi hr hd hs hj (h i rfl)
theorem GB.el{a:Option Addr}{m c b:Nat}{B:List (Nat×Blk)}{xs:List α}(hv:GB R F a m c B xs)(ha:a=some ⟨b,0,none⟩){j:Nat}{x:α}(hj:xs[j]?=some x):∃cs l,(b,Blk.cells false cs)∈B∧partL cs (0+j*R.size) R.size=some l∧R.rel F l x:=by
 obtain⟨i,cs,rst,h1,h2,h3,h4,h5⟩:=hv.at_pos hj;rw[h1] at ha;cases ha;obtain⟨l,g1,g2⟩:=h4.at j x hj;exact⟨_,l,by rw[h3];exact List.mem_cons_self ..,by rw[Nat.zero_add];exact partL_app g1,g2⟩
theorem WT.gldS(hT:rowsOk C T=true)(p:Nat){t:TypeId}{ao:Operand}{a:Option Addr}{m c j b:Nat}{B B2:List (Nat×Blk)}{xs:List α}{x:α}{r:Row}(hv:GB R F a m c B xs)(ha:a=some ⟨b,0,none⟩)(hj:xs[j]?=some x)(hop:o.op=.load t ao)(hw:wantK ops k o=some true){dst:Nat}(hdst:o.dst=some dst)(hn:Nat.blt dst n=true)
  (hao:evK C k ao=some (.pointer (some ⟨b,0+j*R.size,none⟩))) (hp:own[p]?=some B2) (hsub:∀z,z∈B→z∈B2) (hr:rowOf T t=some r) (hd:r.d.agg=true) (hs:r.size=R.size)
  (h:∀l,R.rel F l x→WT C n ops rest ((dst,.agg ⟨l⟩)::k) F own (fun k2 F2 own2 rs=>Q k2 F2 own2 (⟨F,own,F,own,[b]⟩::rs))):WT C n ops (o::rest) k F own Q:=by
 obtain⟨cs,l,h1,h2,h3⟩:=hv.el ha hj;exact WT.loadOwn p hop hw hao hp (hsub _ h1) (readA_agg hT hr hd hs h2) (by rw[hdst,putK_some hn];exact h l h3)
theorem WT.gld1(hT:rowsOk C T=true)(p:Nat){t:TypeId}{ao:Operand}{a:Option Addr}{m c j b:Nat}{B B2:List (Nat×Blk)}{xs:List α}{x:α}{r:Row}(hv:GB R F a m c B xs)(ha:a=some ⟨b,0,none⟩)(hj:xs[j]?=some x)(hop:o.op=.load t ao)(hw:wantK ops k o=some true){dst:Nat}(hdst:o.dst=some dst)(hn:Nat.blt dst n=true)
  (hao:evK C k ao=some (.pointer (some ⟨b,0+j*R.size,none⟩))) (hp:own[p]?=some B2) (hsub:∀z,z∈B→z∈B2) (hr:rowOf T t=some r) (hd:r.d.agg=false) (hs:R.size=1)
  (h:∀v,R.rel F [v] x→WT C n ops rest ((dst,v)::k) F own (fun k2 F2 own2 rs=>Q k2 F2 own2 (⟨F,own,F,own,[b]⟩::rs))):WT C n ops (o::rest) k F own Q:=by
 obtain⟨cs,l,h1,h2,h3⟩:=hv.el ha hj;have hl:=R.len _ _ _ h3;rw[hs] at hl h2;obtain⟨v,rfl⟩:∃v,l=[v]:=List.length_eq_one_iff.1 hl;rw[←hs] at h2;have h2':partL cs (0+j*R.size) 1=some [v]:=by rw[←hs];exact h2
 exact WT.loadAt hT p hop hw hdst hn hao hp (hsub _ h1) hr hd (partL_one h2' rfl) (h v h3)
end
end Go.Abs
/-
 Maps with marks of what was deleted: looking up,setting,deleting,entries.
-/
set_option linter.unusedVariables false
namespace Go.Abs
open Go
section
variable {C:Ctx}{T:RT}{t:TypeId}{κ:Type}[DecidableEq κ](K:KeyTy C t κ)
variable {n:Nat}{k:Kno}{F:Frz}{own:Own}{ops rest:List Oper}{o:Oper}{Q:Kno→Frz→Own→List Rec→Prop}
theorem set_same{α:Type}{l:List α}{p:Nat}{x:α}(h:l[p]?=some x):l.set p x=l:=by
 obtain⟨h1,rfl⟩:=List.getElem?_eq_some_iff.1 h;exact List.set_getElem_self h1
end
end Go.Abs
/-
 Entries of maps that are changed where they lie: 'm[k] |= v'.
-/
set_option linter.unusedVariables false
namespace Go.Abs
open Go
section
variable {C:Ctx}{T:RT}{t:TypeId}{κ:Type}[DecidableEq κ](K:KeyTy C t κ)
def idxK:Ents κ→κ→Nat
 | [],_=>0
 | (k,_)::m,k2=>if k2=k then 0 else idxK m k2+1
def mIns(m:Ents κ)(k:κ)(z:Value):Ents κ:=if look m k=none then mset m k z else m
theorem findA_idx(k:κ):∀(m:Ents κ) (i:Nat),(look m k=none→findA C t (K.key k) (entsV K m) i=some none∧idxK m k=m.length)∧
  (∀v,look m k=some v→findA C t (K.key k) (entsV K m) i=some (some (i+idxK m k,v))∧(entsV K m)[idxK m k]?=some (K.key k,v)∧∀v',(entsV K m).set (idxK m k) (K.key k,v')=entsV K (mset m k v'))
 | [],i=>⟨fun _=>⟨rfl,rfl⟩,fun v h=>by cases h⟩
 | (k',v')::m,i=>by
  rcases K.eq k k' with ⟨rfl,h⟩ | ⟨hne,h⟩
  ·refine⟨fun h2=>by simp[look] at h2,fun v h2=>?_⟩;have h2:v'=v:=by simpa [look] using h2
   subst h2;refine⟨?_,?_,fun w=>?_⟩
   ·simp only[entsV,List.map_cons,findA,h,idxK,if_pos];rfl
   ·simp only[idxK,if_pos,entsV,List.map_cons];rfl
   ·simp[entsV,mset,idxK]
  ·obtain⟨h1,h2⟩:=findA_idx k m (i+1);refine⟨fun h3=>?_,fun v h3=>?_⟩
   ·have h3:look m k=none:=by simpa [look,hne] using h3
    obtain⟨h4,h5⟩:=h1 h3;refine⟨?_,?_⟩
    ·simp only[entsV,List.map_cons,findA,h];exact h4
    ·simp only[idxK,if_neg hne,h5,List.length_cons]
   ·have h3:look m k=some v:=by simpa [look,hne] using h3
    obtain⟨h4,h5,h6⟩:=h2 v h3;refine⟨?_,?_,fun w=>?_⟩
    ·simp only[entsV,List.map_cons,findA,h,idxK,if_neg hne];rw[show i+(idxK m k+1)=i+1+idxK m k by omega];exact h4
    ·simp only[idxK,if_neg hne,entsV,List.map_cons,List.getElem?_cons_succ];exact h5
    ·have:=h6 w;simp only[entsV] at this;simp only[idxK,if_neg hne,entsV,List.map_cons,List.set_cons_succ,mset,this]
omit [DecidableEq κ] in
theorem stamps_at:∀(m:Ents κ) (s j:Nat),j<m.length→(stamps s (entsV K m))[j]?=some (s+j)
 | [],_,_,h=>by simp at h
 | (k,v)::m,s,0,_=>by simp only[entsV,List.map_cons,stamps,tomb_ents K k,cond_false,List.getElem?_cons_zero,Nat.add_zero]
 | (k,v)::m,s,j+1,h=>by
  have:=stamps_at m (s+1) j (by simpa using h);simp only[entsV] at this;simp only[entsV,List.map_cons,stamps,tomb_ents K k,cond_false,List.getElem?_cons_succ,this];congr 1;omega
omit [DecidableEq κ] in
theorem stamps_find:∀(m:Ents κ) (s j:Nat),j<m.length→(stamps s (entsV K m)).findIdx? (fun (b:Nat)=>decide ((b:Int)=((s+j:Nat):Int)))=some j
 | [],_,_,h=>by simp at h
 | (k,v)::m,s,0,_=>by simp[entsV,stamps,tomb_ents K k,List.findIdx?_cons]
 | (k,v)::m,s,j+1,h=>by
  have:=stamps_find m (s+1) j (by simpa using h);simp only[entsV] at this;have hne:¬((s:Int)=((s+(j+1):Nat):Int)):=by omega
  have e:s+1+j=s+(j+1):=by omega
  rw[e] at this;simp only[entsV,List.map_cons,stamps,tomb_ents K k,cond_false,List.findIdx?_cons,decide_eq_false hne,this];rfl
theorem idxK_lt:∀(m:Ents κ) (k:κ) (v:Value),look m k=some v→idxK m k<m.length
 | [],_,_,h=>by cases h
 | (k',v')::m,k,v,h=>by
  unfold look at h;unfold idxK;split at h
  ·rename_i e;rw[if_pos e];simp
  ·rename_i e;rw[if_neg e,List.length_cons];have:=idxK_lt m k v h;omega
theorem look_mIns(m:Ents κ)(k:κ)(z:Value):look (mIns m k z) k=some ((look m k).getD z):=by
 unfold mIns;split
 ·rename_i h;rw[look_mset,if_pos rfl,h];rfl
 ·rename_i h;cases e:look m k with
  | none=>exact absurd e h
  | some v=>rfl
theorem idxK_mIns:∀(m:Ents κ) (k:κ) (z:Value),idxK (mIns m k z) k=idxK m k
 | [],k,z=>by simp[mIns,look,mset,idxK]
 | (k',v')::m,k,z=>by
  by_cases e:k=k'
  ·subst e;simp[mIns,look,idxK]
  ·have ih:=idxK_mIns m k z;unfold mIns at ih ⊢;simp only[look,if_neg e];split
   ·rename_i h;rw[if_pos h] at ih;simp only[mset,if_neg e,idxK,ih]
   ·rfl
theorem mset_mIns:∀(m:Ents κ) (k:κ) (z v:Value),mset (mIns m k z) k v=mset m k v
 | [],k,z,v=>by simp[mIns,look,mset]
 | (k',v')::m,k,z,v=>by
  by_cases e:k=k'
  ·subst e;simp[mIns,look,mset]
  ·have ih:=mset_mIns m k z v;unfold mIns at ih ⊢;simp only[look,if_neg e];split
   ·rename_i h;rw[if_pos h] at ih;simp only[mset,if_neg e,ih]
   ·rfl
variable {n:Nat}{k:Kno}{F:Frz}{own:Own}{ops rest:List Oper}{o:Oper}{Q:Kno→Frz→Own→List Rec→Prop}
theorem lset_same{α:Type}{l:List α}{p:Nat}{a:α}(h:l[p]?=some a):l.set p a=l:=by
 apply List.ext_getElem?;intro i;by_cases e:i=p
 ·subst e;rw[List.getElem?_set_self (List.getElem?_eq_some_iff.1 h).1,h]
 ·rw[List.getElem?_set_ne (Ne.symm e)]
theorem WT.mapEntry(hT:rowsOk C T=true)(p q:Nat){tm et:TypeId}{mo ko:Operand}{i:Nat}{m:Ents κ}{key:κ}{r:Row}{z:Value}{B B':List (Nat×Blk)}{own':Own}{d:Nat}(hop:o.op=.mapEntry tm mo ko)(hw:wantK ops k o=some true)(hdst:o.dst=some d)(hn:Nat.blt d n=true)
  (hm:evK C k mo=some (.map (some i))) (hk:evK C k ko=some (K.key key)) (hp:own[p]?=some B) (hq:B[q]?=some (i,Blk.map (entsV K m))) (hr:rowOf T tm=some r) (hd:r.d=.map t et) (hz:zeroT T et=some z)
  (hB:setB B q (i,.map (entsV K (mIns m key z)))=some B') (ho:setO own p B'=some own')
  (h:WT C n ops rest ((d,.tuple ⟨[(look m key).getD z,.int .i64 (idxK m key:Nat)]⟩)::k) F own' (fun k2 F2 own2 rs=>Q k2 F2 own2 (⟨F,own,F,own',[]⟩::rs))):WT C n ops (o::rest) k F own Q:=by
 have e1:=setB_ok _ _ _ _ hB;have e2:=setO_ok _ _ _ _ ho;subst e1;subst e2;have hl:looksK (evK C k) o.op=some []:=by rw[hop];rfl
 obtain⟨h3,h4⟩:=findA_idx K key m 0;cases hlk:look m key with
 | none=>
  obtain⟨h5,h6⟩:=h3 hlk;refine WT.put (v:=.tuple ⟨[(look m key).getD z,.int .i64 (idxK m key:Nat)]⟩) (b':=.map (entsV K (mIns m key z))) p q hp hq hw hl (fun h0 s0 hb=>?_) (by rw[hdst,putK_some hn];exact h);rw[hop];have e:mIns m key z=mset m key z:=by unfold mIns;rw[if_pos hlk]
  have hlen:(entsV K m).length=m.length:=by unfold entsV;rw[List.length_map]
  simp only[opA,hm,hk,mapEntryA,und_map hT hr hd,hb,alive_ents K m,K.ok,h5,zeroT_ok hT hz,e,mset_none K key z m hlk,hlk,h6,hlen];rfl
 | some v=>
  obtain⟨h5,h6,_⟩:=h4 v hlk;have hlt:=idxK_lt m key v hlk;have hst:=stamps_at K m 0 _ hlt;rw[Nat.zero_add] at hst h5;have e:mIns m key z=m:=by unfold mIns;rw[if_neg (by rw[hlk];simp)]
  have eo:own.set p (B.set q (i,.map (entsV K (mIns m key z))))=own:=by rw[e,lset_same hq,lset_same hp]
  rw[eo] at h;refine WT.still (v:=.tuple ⟨[(look m key).getD z,.int .i64 (idxK m key:Nat)]⟩) hw hl (fun h0 s0=>?_) (by rw[hdst,putK_some hn];exact h);have hb:=s0.has hp (List.mem_of_getElem? hq);rw[hop];simp only[opA,hm,hk,mapEntryA,und_map hT hr hd,hb,alive_ents K m,K.ok,h5,h6,hst,sameV_refl,hlk];rfl
theorem WT.entryStore(p q:Nat){tm:TypeId}{mo so xo:Operand}{i:Nat}{m:Ents κ}{key:κ}{v0 v:Value}{B B':List (Nat×Blk)}{own':Own}(hop:o.op=.entryStore tm mo so xo)(hw:wantK ops k o=some true)(hdst:o.dst=none)
  (hm:evK C k mo=some (.map (some i))) (hs:evK C k so=some (.int .i64 (idxK m key:Nat))) (hv:evK C k xo=some v) (hp:own[p]?=some B) (hq:B[q]?=some (i,Blk.map (entsV K m))) (hlk:look m key=some v0)
  (hB:setB B q (i,.map (entsV K (mset m key v)))=some B') (ho:setO own p B'=some own')
  (h:WT C n ops rest k F own' (fun k2 F2 own2 rs=>Q k2 F2 own2 (⟨F,own,F,own',[]⟩::rs))):WT C n ops (o::rest) k F own Q:=by
 have e1:=setB_ok _ _ _ _ hB;have e2:=setO_ok _ _ _ _ ho;subst e1;subst e2;obtain⟨h5,h6,h7⟩:=(findA_idx K key m 0).2 v0 hlk;have hlt:=idxK_lt m key v0 hlk;have hf:=stamps_find K m 0 _ hlt;rw[Nat.zero_add] at hf;refine WT.put (v:=undefA) (b':=.map (entsV K (mset m key v))) p q hp hq hw (by rw[hop];rfl) (fun h0 s0 hb=>?_) (by rw[hdst];exact h);rw[hop];simp only[opA,hm,hs,hv,entryStoreA,hb,hf,alive_ents K m,h6,setAlive_ents K,h7];rfl
theorem lookup_bend(hT:rowsOk C T=true){tm et:TypeId}{mo ko:Operand}{i:Nat}{m2:Ents κ}{key:κ}{r:Row}{z v:Value}(hop:o.op=.lookup tm mo ko false)
  (hm:evK C k mo=some (.map (some i))) (hk:evK C k ko=some (K.key key)) (hr:rowOf T tm=some r) (hd:r.d=.map t et) (hz:zeroT T et=some z) {h2:Heap} (hb:h2.get i=some (.map (entsV K m2))) (hv:(look m2 key).getD z=v) :
  opA C (evK C k) h2 o.op=some (.val v h2):=by
 rw[hop];rcases findA_ents K key m2 0 with ⟨h3,h4⟩ | ⟨j,v,h3,h4,_,_⟩
 ·rw[h3] at hv;have hv:z=v:=hv;simp only[opA,hm,hk,lookupA,und_map hT hr hd,entriesA,hb,alive_ents K m2,K.ok,h4,zeroT_ok hT hz,hv];rfl
 ·rw[h3] at hv;simp only[opA,hm,hk,lookupA,und_map hT hr hd,entriesA,hb,alive_ents K m2,K.ok,h4,←hv];rfl
theorem WT.lookup1B(hT:rowsOk C T=true)(p:Nat){tm et:TypeId}{mo ko:Operand}{i:Nat}{m:Ents κ}{key:κ}{r:Row}{z:Value}{B:List (Nat×Blk)}{d:Nat}(hop:o.op=.lookup tm mo ko false)(hw:wantK ops k o=some true)(hdst:o.dst=some d)(hn:Nat.blt d n=true)
  (hm:evK C k mo=some (.map (some i))) (hk:evK C k ko=some (K.key key)) (hp:own[p]?=some B) (hq:(i,Blk.map (entsV K m))∈B) (hr:rowOf T tm=some r) (hd:r.d=.map t et) (hz:zeroT T et=some z)
  (h1:WT C n ops rest ((d,(look m key).getD z)::k) F own (fun k2 F2 own2 rs=>Q k2 F2 own2 (@Rec.mk F own F own [i] ⟨fun h2=>opA C (evK C k) h2 o.op=some (.val ((look m key).getD z) h2)⟩::rs))):WT C n ops (o::rest) k F own Q:=by
 have hl:looksK (evK C k) o.op=some [i]:=by rw[hop];simp only[looksK,hm]
 refine WT.stepB (fun h2=>opA C (evK C k) h2 o.op=some (.val ((look m key).getD z) h2)) hl fun e h hkn hs=>⟨(look m key).getD z,?_,fun h2 hb=>?_,by rw[hdst,putK_some hn];exact h1⟩
 ·have ho:=lookup_bend K hT (o:=o) (v:=(look m key).getD z) hop hm hk hr hd hz (hs.has hp hq) rfl;exact⟨0,fun N _=>step_val hkn hw ho _⟩
 ·have ho:=lookup_bend K hT (o:=o) (v:=(look m key).getD z) hop hm hk hr hd hz (hs.has hp hq) rfl;have e1:=opA_mono hkn.eval ho;have e2:=opA_mono hkn.eval hb;unfold flexA;rw[hop] at e1 e2 ⊢;dsimp only;rw[e1,e2];exact sameV_refl _
end
end Go.Abs