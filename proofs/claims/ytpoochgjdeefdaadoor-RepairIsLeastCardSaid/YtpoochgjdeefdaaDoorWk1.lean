/-
  Walks: what functions of the program do, over the abstract machine.
-/
import Derived.Test.YtpoochgjdeefdaaDoorWk0
set_option linter.unusedVariables false
set_option maxRecDepth 20000
set_option maxHeartbeats 0
open Go Go.Abs Go.Proofs Go.Proofs.D
namespace Go.Proofs.D
def QP(g:Gram)(w:List Nat):Nat→Item→Prop:=fun k x=>ItemOk g.rules k x∧(k≤w.length→∀L,Sets g (w.take k) L→x∈L k)
structure FZ where
 fi:Nat
 ga:Option Addr
 gm:Nat
 gc:Nat
 q:ChP
 s:SSt
 wa:Option Addr
 wn:Nat
 wc:Nat
 BW:List (Nat×Blk)
 w:List Nat
 E:List Bool
structure ZOk(g:Gram)(F:Frz)(f:FZ):Prop where
 rules:Arr tRule F f.ga f.gm f.gc g.rules
 ends:EndsIn g f.E
 chart:SOk (trimmed f.E g) (QP (trimmed f.E g) f.w) f.q F f.s
 k:f.s.k=f.w.length
 sets:Sets (trimmed f.E g) f.w (LZ f.s)
 word:GB tNat F f.wa f.wn f.wc f.BW f.w
 ok:∀t∈f.w,t<g.terms
theorem ZOk.mono{g:Gram}{F G:Frz}{f:FZ}(h:ZOk g F f)(hF:Frz.le F G):ZOk g G f:=⟨h.rules.mono hF,h.ends,h.chart.mono hF,h.k,h.sets,h.word.mono hF,h.ok⟩
structure NextZ(g:Gram)(f:FZ)(xs:List Bool):Prop where
 len:xs.length=g.terms+1
 term:∀t,t<g.terms→(xs[t]?=some true↔∃x∈LZ f.s f.s.k,nextOf (trimmed f.E g).rules x=some ⟨true,t⟩)
 done:xs[g.terms]?=some (derives g f.w g.start 0 f.w.length)
def hCells(g:Gram)(q:ChP)(s:CSt):List Value:=[.int .i64 g.terms,.int .i64 g.nons,.int .i64 g.start,.slice q.ra q.rm q.rc,.slice s.la (s.k+1) s.lc]
def hB(g:Gram)(q:ChP)(s:CSt):List (Nat×Blk):=(q.ic,.cells false (hCells g q s))::(s.BL++s.BX)
structure HOk(g:Gram)(Q:Nat→Item→Prop)(q:ChP)(F:Frz)(s:CSt):Prop where
 rules:Arr tRule F q.ra q.rm q.rc g.rules
 list:Bld tRaw F s.la (s.k+1) s.lc s.BL (s.us++[.slice s.xa s.xn s.xc])
 usl:s.us.length=s.k
 oldl:s.old.length=s.k
 olds:∀(j:Nat) (l:List Item),s.old[j]?=some l→∃a n c,s.us[j]?=some (.slice a n c)∧Arr tItem F a n c l
 last:Bld tItem F s.xa s.xn s.xc s.BX s.last
 nodup:s.last.Nodup
 qold:∀(j:Nat) (l:List Item),s.old[j]?=some l→∀x∈l,Q j x
 qlast:∀x∈s.last,Q s.k x
 small:s.k≤20
 olen:∀(j:Nat) (l:List Item),s.old[j]?=some l→l.length≤3360
 ndold:∀(j:Nat) (l:List Item),s.old[j]?=some l→l.Nodup
theorem HOk.mono{g:Gram}{Q:Nat→Item→Prop}{q:ChP}{F G:Frz}{s:CSt}(h:HOk g Q q F s)(hF:Frz.le F G):HOk g Q q G s:=
 ⟨h.rules.mono hF,h.list.mono hF,h.usl,h.oldl,fun j l hj=>by obtain⟨a,n,c,h1,h2⟩:=h.olds j l hj;exact⟨a,n,c,h1,h2.mono hF⟩,h.last.mono hF,h.nodup,h.qold,h.qlast,h.small,h.olen,h.ndold⟩
section
variable {C:Ctx}{T:RT}{n:Nat}{k:Kno}{F:Frz}{own:Own}{ops rest:List Oper}{o:Oper}{Q:Kno→Frz→Own→List Rec→Prop}
theorem capNil(hT:rowsOk C T=true){t e:TypeId}{ts:List TypeId}{r:Row}{xo:Operand}(hop:o.op=.call ⟨.builtin .cap,⟨[xo]⟩,⟨t::ts⟩⟩)(hw:wantK ops k o=some true){dst:Nat}(hdst:o.dst=some dst)(hn:Nat.blt dst n=true)
  (hx:evK C k xo=some (.slice none 0 0)) (hr:rowOf T t=some r) (hd:r.d=.slice e)
  (h:WT C n ops rest ((dst,.int .i64 ((0:Nat):Int))::k) F own (fun k2 F2 own2 rs=>Q k2 F2 own2 (⟨F,own,F,own,[]⟩::rs))):WT C n ops (o::rest) k F own Q:=by
 refine WT.still (l:=[]) hw (by rw[hop];rfl) (fun h0 _=>?_) (by rw[hdst,putK_some hn];exact h)
 rw[hop]
 have hv:vals (evK C k) [xo]=some [.slice none 0 0]:=by simp[vals,hx]
 simp only[opA,hv,builtinA,capA,und_slice hT hr hd]
 rfl
theorem first0{h:Heap}{s m c:Nat}{a:Option Addr}(ha:∀p,a=some p→p.spot=none):firstA h s 0 (.slice a m c)=some []:=by
 match a,ha with
 | none,_=>rfl
 | some ⟨b,off,none⟩,_=>rfl
 | some ⟨b,off,some _⟩,ha=>have:=ha _ rfl;cases this
end
theorem numGrow_spec(F:Frz)(n:Nat)(hn:n≤1000) :
  Abs.Spec CC 70 [.slice none 0 0,.int .i64 n] F [] fun F' v o=>∃B',o=[B']∧((n=0∧v=.slice none 0 0∧B'=[])∨∃b,v=.slice (some ⟨b,0,none⟩) 0 1∧PBld tNat F' b 0 B' []):=by
 refine Abs.Spec.fn (n:=27) Tryd.func70 rfl rfl fun own=>?_
 refine zC4 ?_
 refine AW.cond Z (fun h=>(by simp at h;omega)) (fun _=>?_)
 refine zC4 ?_
 refine capNil hT Z Z Z Z Z Z Z ?_
 refine zC4 ?_
 refine AW.cond Z (fun h=>?_) (fun h=>?_)
 ·have h:0<n:=by simp at h;omega
  rw[show n-(0-0)=n by omega]
  refine zC4 ?_
  refine capNil hT Z Z Z Z Z Z Z ?_
  skip
  refine WT.slice Z Z Z Z Z Z Z Z (v:=.slice none 0 0) (fun h0=>rfl) ?_
  refine zC4 ?_
  refine WT.appendN hT Z Z Z Z Z Z Z Z Z Z Z Z Z Z Z ⟨h,by decide,by decide⟩ zo zom (fun i9 hi9=>?_)
  refine zC4 ?_
  refine WT.slice Z Z Z Z Z Z Z Z (fun h0=>sliceA_some (lo:=0) (hi:=0) hT Z Z Z Z Z (Nat.le_refl _) (Nat.zero_le _) (.inr rfl) h0) ?_
  refine zC4 ?_
  refine AW.ret ⟨_,[_],⟨_,_,rfl,rfl,rfl⟩,zsb,_,rfl,.inr ⟨i9,rfl,rfl,by decide,_,[],rfl,?_,.nil⟩⟩
  exact partL_of rfl rfl
 ·have h:n=0:=by simp at h;omega
  subst h
  refine zC4 ?_
  refine AW.le (own2:=[]::own) (OwnLe.flat (List.Perm.refl _)) ?_
  exact AW.ret ⟨_,[[]],⟨_,_,rfl,rfl,rfl⟩,zsb,_,rfl,.inl ⟨rfl,rfl,rfl⟩⟩
structure GSn where
 b:Nat
 xs:List Nat
 B:List (Nat×Blk)
theorem numConcat_spec(F:Frz){a:Option Addr}{m c:Nat}{L:List (List Nat)}(hL:Arr (tList tNat) F a m c L)(hm:m≤1000)(ht:L.flatten.length≤1000) :
  Abs.Spec CC 36 [.slice a m c] F [] fun F' v o=>o=[]∧∃a' c',v=.slice a' L.flatten.length c'∧Arr tNat F' a' L.flatten.length c' L.flatten:=by
 have hml:=hL.len
 have step:∀j l,L[j]?=some l→(L.take (j+1)).flatten=(L.take j).flatten++l:=fun j l h=>by
  rw[List.take_add_one,h];simp
 have few:∀j,(L.take j).flatten.length≤L.flatten.length:=fun j=>by
  have:L.flatten=(L.take j).flatten++(L.drop j).flatten:=by rw[←List.flatten_append,List.take_append_drop]
  rw[this,List.length_append];omega
 refine Abs.Spec.fn (n:=36) Tryd.func36 rfl rfl fun own=>?_
 refine zC4 ?_
 refine AW.range (S:=Nat) (fun s=>[(3,.int .i64 (s:Nat))]) (fun _=>_) (fun j s G=>s=(L.take j).flatten.length) m 0 Z Z Z Z Z Z Z Z Z zo Z Z (fun _=>rfl) (fun _=>rfl) sM oR (by simp) ?_ ?_
 ·intro j s F1 hF1 hj hP
  have hL1:=hL.mono hF1
  have hfj:=few j
  have hP:s=(L.take j).flatten.length:=hP
  refine zC4 ?_
  refine WT.idxL hT hL1 Z Z Z Z Z Z Z Z Z zo (fun l hlj b1 off ro cs lx hb hp1 hrel=>?_)
  obtain⟨xa,xn,xc,rfl,hxa⟩:=hrel
  have hxl:=hxa.len
  have hst:=step j l hlj
  have hfj2:=few (j+1)
  rw[hst,List.length_append] at hfj2
  refine zC4 ?_
  refine AW.cond Z (fun h=>(by simp at h;omega)) (fun _=>?_)
  refine zC4 ?_
  refine⟨s+xn,sM,zow,?_⟩
  show s+xn=(L.take (j+1)).flatten.length
  rw[hst,List.length_append,←hP,hxl]
 ·intro s F1 hF1 hP
  have hP:s=(L.take m).flatten.length:=hP
  rw[List.take_of_length_le zo] at hP
  subst hP
  have hL1:=hL.mono hF1
  refine zC4 ?_
  refine WT.callN Tryd.func70 Z Z Z Z Z Z (numGrow_spec _ _ ht) (fun F2 v B2 hF2 hv=>?_)
  have hL2:=hL1.mono hF2
  rcases hv with ⟨hn,rfl,rfl⟩ | ⟨b,rfl,hb⟩
  ·have h0:L.flatten=[]:=List.eq_nil_of_length_eq_zero hn
   refine zC4 ?_
   refine AW.range (S:=Unit) (fun _=>[]) (fun _=>_) (fun j _ G=>True) m ()
    Z Z Z Z Z Z Z Z Z zo rfl rfl (fun _=>rfl) (fun _=>rfl) sM oR trivial ?_ ?_
   ·intro j u F3 hF3 hj _
    have hL3:=hL2.mono hF3
    refine zC4 ?_
    refine WT.idxL hT hL3 Z Z Z Z Z Z Z Z Z zo (fun l hlj b1 off ro cs lx hb hp1 hrel=>?_)
    obtain⟨xa,xn,xc,rfl,hxa⟩:=hrel
    have hxl:=hxa.len
    have hl0:l=[]:=by
     have h1:=few (j+1)
     rw[step j l hlj,List.length_append] at h1
     exact List.eq_nil_of_length_eq_zero zo
    obtain rfl:xn=0:=by rw[hxl,hl0];rfl
    refine zC4 ?_
    refine WT.append0 hT Z Z Z Z Z Z Z Z Z Z Z Z Z (fun h0 s0=>first0 hxa.spot) (by decide) zom ?_
    refine zC4 ?_
    exact⟨(),sM,zow,trivial⟩
   ·intro u F3 hF3 _
    refine zC4 ?_
    refine AW.ret ⟨_,[],⟨_,_,rfl,rfl,rfl⟩,zsb,rfl,none,0,?_,?_⟩
    ·rw[hn];rfl
    ·rw[h0];exact Arr.nil_ _ _
  ·refine zC4 ?_
   refine AW.range (S:=GSn) (fun u=>[(6,.slice (some ⟨u.b,0,none⟩) u.xs.length 1)]) (fun u=>u.B::own) (fun j u G=>PBld tNat G u.b u.xs.length u.B u.xs∧u.xs=(L.take j).flatten) m ⟨b,[],B2⟩
    Z Z Z Z Z Z Z Z Z zo rfl rfl (fun _=>rfl) (fun _=>rfl) sM oR ⟨hb,by simp⟩ ?_ ?_
   ·intro j u F3 hF3 hj hP
    obtain⟨hb3,hxs⟩:=hP
    have hL3:=hL2.mono hF3
    have hfj2:=few (j+1)
    refine zC4 ?_
    refine WT.idxL hT hL3 Z Z Z Z Z Z Z Z Z zo (fun l hlj b1 off ro cs lx hb hp1 hrel=>?_)
    obtain⟨xa,xn,xc,rfl,hxa⟩:=hrel
    have hxl:=hxa.len
    have hst:=step j l hlj
    rw[hst,List.length_append,←hxs,←hxl] at hfj2
    refine zC4 ?_
    obtain⟨ds,hds,hcs⟩:=news_arr hT hxa (t:=22) rfl rfl 3
    refine WT.appendP hT 0 hb3 Z (fun _=>rfl) Z Z Z Z Z Z Z Z Z Z Z (fun h0 s0=>hds _ h0 s0) hcs hxl (by decide) zom (fun b' B' hB'=>?_)
    have hl2:u.xs.length+xn=(u.xs++l).length:=by rw[List.length_append,←hxl]
    rw[hl2] at hB' ⊢
    refine zC4 ?_
    exact⟨⟨b',u.xs++l,B'⟩,sM,zow,hB',by rw[hst,←hxs]⟩
   ·intro u F3 hF3 hP
    obtain⟨hb3,hxs⟩:=hP
    rw[List.take_of_length_le zo] at hxs
    refine AW.freezeAll 0 Z Z (fun F4 hF4 hB4=>?_)
    have harr:=hb3.arr hF4 hB4
    refine zC4 ?_
    rw[hxs] at harr ⊢
    exact AW.ret ⟨_,[],⟨_,_,rfl,rfl,rfl⟩,zsb,rfl,_,_,rfl,harr⟩
def cmpNats:List Nat→List Nat→Int
 | [],[]=>0
 | [],_::_=>-1
 | _::_,[]=>1
 | a::l,b::m=>if cmpInt a b=0 then cmpNats l m else cmpInt a b
theorem cmpNats_take:∀(j:Nat) (l m:List Nat),j≤l.length→j≤m.length→(∀i (h1:i<l.length) (h2:i<m.length),i<j→cmpInt l[i] m[i]=0)→cmpNats l m=cmpNats (l.drop j) (m.drop j)
 | 0,l,m,_,_,_=>by simp
 | j+1,[],m,h,_,_=>by simp at h
 | j+1,_::_,[],_,h,_=>by simp at h
 | j+1,a::l,b::m,h1,h2,h=>by
  have h0:=h 0 (by simp) (by simp) zo
  simp only[List.getElem_cons_zero] at h0
  simp only[cmpNats,h0,if_true,List.drop_succ_cons]
  exact cmpNats_take j l m (by simpa using h1) (by simpa using h2) (fun i h3 h4 h5=>h (i+1) (by simpa using h3) (by simpa using h4) zo)
theorem numCompare_spec(F:Frz){a b:Option Addr}{m n c d:Nat}{xs ys:List Nat}(hx:Arr tNat F a m c xs)(hy:Arr tNat F b n d ys)(hm:m≤1000000)(hn:n≤1000000) :
  Abs.Spec CC 10 [.slice a m c,.slice b n d] F [] fun _ v o=>o=[]∧v=.int .i64 (cmpNats xs ys):=by
 refine Abs.Spec.fn (n:=36) Tryd.func10 rfl rfl fun own=>?_
 have hxlen:=hx.len
 have hylen:=hy.len
 refine zB4 ?_
 refine AW.range (S:=Unit) (fun _=>[]) (fun _=>_) (fun j _ _=>j≤n∧∀i (h1:i<xs.length) (h2:i<ys.length),i<j→cmpInt xs[i] ys[i]=0) m () Z Z Z Z Z Z Z Z Z zo Z Z (fun _=>rfl) (fun _=>rfl) sM oR ⟨by omega,by omega⟩ ?_ ?_
 ·intro j _ F1 hF1 hj hP
  obtain⟨hjn,hP⟩:=hP
  have hx1:=hx.mono hF1
  have hy1:=hy.mono hF1
  refine zB4 ?_
  refine WT.idxL hT hx1 Z Z Z Z Z Z Z Z Z zo (fun x hxj b1 off ro cs lx hb hp hrel=>?_)
  obtain rfl:lx=_:=hrel
  refine zB4 ?_
  refine AW.cond Z (fun hc=>?_) (fun hc=>?_)
  ·have hc:n≤j:=by simp at hc;omega
   refine zB4 ?_
   refine AW.ret ⟨_,[],⟨_,_,rfl,rfl,rfl⟩,zsb,rfl,?_⟩
   rw[cmpNats_take j xs ys zo zo hP,List.drop_of_length_le (show ys.length≤j by omega),List.drop_eq_getElem_cons (show j<xs.length by omega)]
   rfl
  ·have hc:j<n:=by simp at hc;omega
   refine zB4 ?_
   refine WT.idxL hT hy1 Z Z Z Z Z Z Z Z Z zo (fun y hyj b2 off2 ro2 cs2 ly hb2 hp2 hrel2=>?_)
   obtain rfl:ly=_:=hrel2
   refine zB4 ?_
   refine WT.callV Tryd.func32 Z Z Z Z Z Z (compare_spec _ x y) (fun v hv=>?_)
   subst hv
   have ex:xs[j]'zo=x:=by rw[gE zo] at hxj;simpa using hxj
   have ey:ys[j]'zo=y:=by rw[gE zo] at hyj;simpa using hyj
   refine zB4 ?_
   refine AW.cond Z (fun hc2=>?_) (fun hc2=>?_)
   ·have hc2:cmpInt x y≠0:=by simpa using hc2
    refine zB4 ?_
    refine AW.ret ⟨_,[],⟨_,_,rfl,rfl,rfl⟩,zsb,rfl,?_⟩
    rw[cmpNats_take j xs ys zo zo hP,List.drop_eq_getElem_cons (show j<xs.length by omega),List.drop_eq_getElem_cons (show j<ys.length by omega)]
    simp[cmpNats,ex,ey,hc2,tupleA]
   ·have hc2:cmpInt x y=0:=by simpa using hc2
    refine zB4 ?_
    refine⟨(),sM,zow,by omega,fun i h1 h2 h3=>?_⟩
    rcases Nat.lt_or_ge i j with h4 | h4
    ·exact hP i h1 h2 h4
    ·have:i=j:=by omega
     subst this
     rw[ex,ey];exact hc2
 ·intro _ F1 hF1 hP
  obtain⟨hjn,hP⟩:=hP
  refine zB4 ?_
  have e:=cmpNats_take m xs ys zo zo hP
  rw[List.drop_of_length_le (show xs.length≤m by omega)] at e
  refine AW.cond Z (fun hc=>?_) (fun hc=>?_)
  ·have hc:m<n:=by simp at hc;omega
   refine zB4 ?_
   refine AW.ret ⟨_,[],⟨_,_,rfl,rfl,rfl⟩,zsb,rfl,?_⟩
   rw[e,List.drop_eq_getElem_cons (show m<ys.length by omega)];rfl
  ·have hc:m=n:=by simp at hc;omega
   refine zB4 ?_
   refine AW.ret ⟨_,[],⟨_,_,rfl,rfl,rfl⟩,zsb,rfl,?_⟩
   rw[e,List.drop_of_length_le (show ys.length≤m by omega)];rfl
def tW:Ty (Option (List Nat)) where
 size:=3
 rel:=fun F l x=>match x with
  | none=>l=[.int .i64 0,.slice none 0 0,.bool false]
  | some w=>∃a n c,l=[.int .i64 (n:Nat),.slice a n c,.bool true]∧Arr tNat F a n c w
 len:=fun F l x h=>by
  cases x with
  | none=>rw[h];rfl
  | some w=>obtain⟨a,n,c,h,_⟩:=h;rw[h];rfl
 one:=fun F l x h=>by
  cases x with
  | none=>rw[h];rfl
  | some w=>obtain⟨a,n,c,h,_⟩:=h;rw[h];rfl
 mono:=fun F G l x hF h=>by
  cases x with
  | none=>exact h
  | some w=>obtain⟨a,n,c,h1,h2⟩:=h;exact⟨a,n,c,h1,h2.mono hF⟩
end Go.Proofs.D
set_option linter.unusedVariables false
set_option maxRecDepth 20000
set_option maxHeartbeats 0
open Go Go.Abs Go.Proofs Go.Proofs.D
namespace Go.Abs
section
variable {C:Ctx}{T:RT}{n:Nat}{k:Kno}{F:Frz}{own:Own}{ops rest:List Oper}{o:Oper}{Q:Kno→Frz→Own→List Rec→Prop}{α:Type}{R:Ty α}
theorem WT.makeS(hT:rowsOk C T=true){t e by_ sz:Nat}{lo co:Operand}{l:Nat}{r:Row}{z:Value}{zs:List Value}(hop:o.op=.makeSlice t lo co)(hw:wantK ops k o=some true){dst:Nat}(hdst:o.dst=some dst)(hn:Nat.blt dst n=true)
  (hl:evK C k lo=some (.int .i64 (l:Nat))) (hc:evK C k co=some (.int .i64 (l:Nat))) (hr:rowOf T t=some r) (hd:r.d=.slice e) (hsz:sizeT T e=some sz) (hz:zeroT T e=some z) (hzn:z.cells.toList=zs) (hby:bytesT T e=some by_)
  (hroom:l≤281474976710656∧by_*l≤281474976710656∧0<sz)
  (h:∀i,F i=none→WT C n ops rest ((dst,.slice (some ⟨i,0,none⟩) l (bif l==0 then 0 else sz))::k) F ([(i,.cells false (rowsL zs l))]::own) (fun k2 F2 own2 rs=>Q k2 F2 own2 (⟨F,own,F,[(i,.cells false (rowsL zs l))]::own,[]⟩::rs))) :
  WT C n ops (o::rest) k F own Q:=by
 subst hzn
 refine WT.new (mk:=fun i=>.slice (some ⟨i,0,none⟩) l (bif l==0 then 0 else sz)) (l:=[]) hw (by rw[hop];rfl) (fun h0 _=>?_) (fun i hi=>by rw[hdst,putK_some hn];exact h i hi)
 rw[hop]
 simp only[opA,hl,hc,makeSliceA,und_slice hT hr hd,sizeT_ok hT hsz,zeroT_ok hT hz,bytesT_ok hT hby]
 have h2:((by_:Nat):Int)*(l:Int)≤281474976710656:=by
  have:=hroom.2.1
  have h2:((by_*l:Nat):Int)≤281474976710656:=by omega
  rwa [Int.natCast_mul] at h2
 have h3:(0:Int)≤l∧True∧(l:Int)≤281474976710656∧(by_:Int)*(l:Int)≤281474976710656∧0<sz:=⟨Int.natCast_nonneg l,trivial,by omega,h2,hroom.2.2⟩
 rw[if_pos h3]
 simp
theorem vec_made{zs:List Value}{x:α}(h:∀F,R.rel F zs x)(hR:0<R.size){F:Frz}{i l:Nat}:Vec R F (some ⟨i,0,none⟩) l (bif l==0 then 0 else R.size) [(i,.cells false (rowsL zs l))] (List.replicate l x):=by
 refine⟨by simp,?_,fun h=>?_,fun h=>(by cases h),fun p hp=>(by cases hp;rfl),.inr ⟨i,_,rfl,rfl,Cells.rows (h F) l,hR⟩⟩
 ·cases l<;>simp
 ·cases l with
  | zero=>rfl
  | succ n=>simp at h;omega
end
end Go.Abs
namespace Go.Proofs.D
def part(v:List Nat)(i j:Nat):List Nat:=(v.take j).drop i
theorem part_len{v:List Nat}{i j:Nat}(hj:j≤v.length):(part v i j).length=j-i:=by unfold part;simp;omega
theorem part_app{v:List Nat}{i m j:Nat}(h1:i≤m)(h2:m≤j)(hj:j≤v.length):part v i m++part v m j=part v i j:=by
 unfold part
 have e:v.take m=(v.take j).take m:=by rw[List.take_take,Nat.min_eq_left h2]
 rw[e,List.drop_take]
 have:List.drop m (List.take j v)=List.drop (m-i) (List.drop i (List.take j v)):=by rw[List.drop_drop,show i+(m-i)=m by omega]
 rw[this,List.take_append_drop]
theorem part_one{v:List Nat}{i t:Nat}(h:v[i]?=some t):part v i (i+1)=[t]:=by
 unfold part
 have hlt:=(gS h).1
 rw[List.take_add_one,h,List.drop_append_of_le_length (by simp;omega),List.drop_of_length_le (by simp;omega)];rfl
theorem part_nil{v:List Nat}{i:Nat}(h:i≤v.length):part v i i=[]:=List.eq_nil_of_length_eq_zero (by rw[part_len h];omega)
abbrev WTab:=Nat→Nat→Nat→Option (List Nat)
structure HT where
 fi:Nat
 ra:Option Addr
 rm:Nat
 rc:Nat
 va:Option Addr
 vn:Nat
 vc:Nat
 ba:Option Addr
 bc:Nat
 BO:List (Nat×Blk)
 os:List Value
 RB:List (Nat×Blk)
 T:WTab
structure TabF(F:Frz)(v:List Nat)(m:Nat)(u:HT):Prop where
 outer:Bld tRaw F u.ba m u.bc u.BO u.os
 rlen:u.RB.length=m*(v.length+1)
 row:∀n,n<m→∃a c vs,u.os[n]?=some (.slice a (v.length+1) c)∧Arr tRaw F a (v.length+1) c vs∧∀i,i≤v.length→∃id cs c',vs[i]?=some (.slice (some ⟨id,0,none⟩) (v.length+1) c')∧
  u.RB[n*(v.length+1)+i]?=some (id,.cells false cs)∧Vec tW F (some ⟨id,0,none⟩) (v.length+1) c' [(id,.cells false cs)] ((List.range (v.length+1)).map (u.T n i))
 pat:Arr tSym F u.va u.vn u.vc (v.map fun t=>⟨true,t⟩)
 val:∀n i j w,u.T n i j=some w→i≤j∧j≤v.length∧w=part v i j
theorem TabF.mono{F G:Frz}{v:List Nat}{m:Nat}{u:HT}(h:TabF F v m u)(hF:Frz.le F G):TabF G v m u:=
 ⟨h.outer.mono hF,h.rlen,fun n hn=>by
  obtain⟨a,c,vs,h1,h2,h3⟩:=h.row n hn
  exact⟨a,c,vs,h1,h2.mono hF,fun i hi=>by obtain⟨id,cs,c',h4,h5,h6⟩:=h3 i hi;exact⟨id,cs,c',h4,h5,h6.mono hF⟩⟩,h.pat.mono hF,h.val⟩
end Go.Proofs.D
set_option linter.unusedVariables false
set_option maxRecDepth 20000
set_option maxHeartbeats 0
open Go Go.Abs Go.Proofs Go.Proofs.D
namespace Go.Abs
section
variable {C:Ctx}{T:RT}{n:Nat}{k:Kno}{F:Frz}{own:Own}{ops rest:List Oper}{o:Oper}{Q:Kno→Frz→Own→List Rec→Prop}{α:Type}{R:Ty α}
theorem partL_get{cs l:List Value}{off m fo:Nat}(h:partL cs off m=some l)(hfo:fo<m):cs[off+fo]?=l[fo]?:=by
 obtain⟨h1,h2⟩:=partL_eq h
 rw[h1,List.getElem?_take,if_pos hfo,List.getElem?_drop]
theorem WT.vfld(hT:rowsOk C T=true)(p:Nat){t:TypeId}{ao:Operand}{a:Option Addr}{m c j b fo:Nat}{B B2:List (Nat×Blk)}{xs:List α}{x:α}{r:Row}{v:Value}(hv:Vec R F a m c B xs)(ha:a=some ⟨b,0,none⟩)(hj:xs[j]?=some x)(hop:o.op=.load t ao)(hw:wantK ops k o=some true){dst:Nat}(hdst:o.dst=some dst)(hn:Nat.blt dst n=true)
  (hao:evK C k ao=some (.pointer (some ⟨b,j*R.size+fo,none⟩))) (hp:own[p]?=some B2) (hsub:∀z,z∈B→z∈B2) (hr:rowOf T t=some r) (hd:r.d.agg=false) (hfo:fo<R.size) (hval:∀l,R.rel F l x→l[fo]?=some v)
  (h:WT C n ops rest ((dst,v)::k) F own (fun k2 F2 own2 rs=>Q k2 F2 own2 (⟨F,own,F,own,[b]⟩::rs))):WT C n ops (o::rest) k F own Q:=by
 obtain⟨i,cs,h1,rfl,h3,h4⟩:=hv.at_ hj
 rw[ha] at h1
 injection h1 with h1
 injection h1 with h1
 subst h1
 obtain⟨l,h5,h6⟩:=h3.at j x hj
 exact WT.loadAt hT p hop hw hdst hn hao hp (hsub _ me) hr hd (by rw[partL_get h5 hfo];exact hval l h6) h
end
end Go.Abs
namespace Go.Proofs.D
structure RowOk(v:List Nat)(i:Nat)(D:Nat→Prop)(N:List (Option (List Nat))):Prop where
 len:N.length=v.length+1
 val:∀q w,N[q]?=some (some w)→i≤q∧w=part v i q
 iff:∀q,q≤v.length→((∃w,N[q]?=some (some w))↔D q)
structure AtS where
 a:Option Addr
 c:Nat
 B:List (Nat×Blk)
 xs:List (Option (List Nat))
structure NkS where
 k:Nat
 B:List (Nat×Blk)
 xs:List (Option (List Nat))
theorem own_rule1(a b c x y:List (Nat×Blk))(own:Own):OwnLe (a::b::c::y::x::own) (y::x::a::b::c::own):=by
 refine OwnLe.perm ?_
 exact(List.perm_middle (l₁:=[y,x]) (a:=a) (l₂:=b::c::own)).trans (List.Perm.cons a ((List.perm_middle (l₁:=[y,x]) (a:=b) (l₂:=c::own)).trans (List.Perm.cons b (List.perm_middle (l₁:=[y,x]) (a:=c) (l₂:=own)))))
end Go.Proofs.D
set_option linter.unusedVariables false
set_option maxRecDepth 20000
set_option maxHeartbeats 0
open Go Go.Abs Go.Proofs Go.Proofs.D
namespace Go.Abs
section
variable {C:Ctx}{T:RT}{n:Nat}{k:Kno}{F:Frz}{own:Own}{ops rest:List Oper}{o:Oper}{Q:Kno→Frz→Own→List Rec→Prop}{α:Type}{R:Ty α}
theorem WT.vstB(hT:rowsOk C T=true)(p q:Nat){t:TypeId}{ao x:Operand}{m c j id:Nat}{cs:List Value}{B:List (Nat×Blk)}{upd:List (Nat×Blk)→Own}{xs:List α}{z y:α}{v:Value}(hv:Vec R F (some ⟨id,0,none⟩) m c [(id,.cells false cs)] xs)(hj:xs[j]?=some z)(hq:B[q]?=some (id,.cells false cs))(hop:o.op=.store t ao x)(hw:wantK ops k o=some true)(hd:o.dst=none)
  (hao:evK C k ao=some (.pointer (some ⟨id,j*R.size,none⟩))) (hx:evK C k x=some v) (hy:R.rel F v.cells.toList y) (hp:own[p]?=some B) (hupd:∀B',setO own p B'=some (upd B')) (hm:sizeT T t=some R.size)
  (h:∀cs',Vec R F (some ⟨id,0,none⟩) m c [(id,.cells false cs')] (xs.set j y)→WT C n ops rest k F (upd (B.set q (id,.cells false cs'))) (fun k2 F2 own2 rs=>Q k2 F2 own2 (⟨F,own,F,upd (B.set q (id,.cells false cs')),[id]⟩::rs))) :
  WT C n ops (o::rest) k F own Q:=by
 obtain⟨i,cs0,h1,h2,h3,h4⟩:=hv.at_ hj
 injection h2 with h2 _
 injection h2 with h2 h5
 injection h5 with _ h5
 subst h5
 have hset:=hv.set rfl hj hy
 have hlt:=(gS hj).1
 have hcl:=h3.len
 have hmul:j*R.size+R.size≤cs.length:=by
  rw[hcl,←Nat.succ_mul]
  exact Nat.mul_le_mul_right _ hlt
 refine WT.store (C:=C) (n:=n) (k:=k) (F:=F) (Q:=Q) (rest:=rest) (ops:=ops) p q hop hw hao hx hp hq (sizeT_ok hT hm) (R.len _ _ _ hy) (R.one _ _ _ hy) hmul ?_
 rw[hd]
 have e:=setO_ok _ _ _ _ (hupd (B.set q (id,.cells false (spliceL cs (j*R.size) v.cells.toList))))
 rw[e]
 exact h _ hset
end
end Go.Abs
namespace Go.Proofs.D
theorem idx_inj{L n i n' i':Nat}(hi:i<L)(hi':i'<L)(h:n*L+i=n'*L+i'):n=n'∧i=i':=by
 have m1:=congrArg (· % L) h
 simp only[Nat.mul_comm _ L,Nat.mul_add_mod] at m1
 rw[Nat.mod_eq_of_lt hi,Nat.mod_eq_of_lt hi'] at m1
 subst m1
 exact⟨Nat.eq_of_mul_eq_mul_right zo (Nat.add_right_cancel h),rfl⟩
theorem idx_lt{L m n i:Nat}(hn:n<m)(hi:i<L):n*L+i<m*L:=by
 have:=Nat.mul_le_mul_right L (show n+1≤m by omega)
 rw[Nat.add_mul,Nat.one_mul] at this
 omega
def lacks(m L:Nat)(T:WTab):Nat:=(List.range (m*L*L)).countP fun p=>(T (p / (L*L)) (p / L % L) (p % L)).isNone
theorem rowsL_one(x:Value):∀n,rowsL [x] n=List.replicate n x
 | 0=>rfl
 | n+1=>by simp only[rowsL,rowsL_one x n,List.replicate_succ];rfl
structure InS where
 B:List (Nat×Blk)
 xs:List Value
 RN:List (Nat×Blk)
structure OuS where
 k:Nat
 ba:Option Addr
 bc:Nat
 BO:List (Nat×Blk)
 os:List Value
 RB:List (Nat×Blk)
structure FS where
 RB:List (Nat×Blk)
 T:WTab
 again:Bool
def TSound(g:Gram)(v:List Nat)(T:WTab):Prop:=∀n i j w,T n i j=some w→Der g v ⟨false,n⟩ i j
structure PInv(g:Gram)(v:List Nat)(p:WTab)(f:FS)(X Y:Prop):Prop where
 tab:Y
 sound:TSound g v f.T
 le:lacks g.nons (v.length+1) f.T≤lacks g.nons (v.length+1) p
 lt:f.again=true→lacks g.nons (v.length+1) f.T<lacks g.nons (v.length+1) p
 cl:f.again=false→f.T=p∧X
structure RowsIn(F:Frz)(L i:Nat)(xs:List Value)(RN:List (Nat×Blk)):Prop where
 len:RN.length=i
 at_:∀j,j<i→∃id cs c',xs[j]?=some (.slice (some ⟨id,0,none⟩) L c')∧RN[j]?=some (id,.cells false cs)∧Vec tW F (some ⟨id,0,none⟩) L c' [(id,.cells false cs)] (List.replicate L none)
theorem RowsIn.mono{F G:Frz}{L i:Nat}{xs:List Value}{RN:List (Nat×Blk)}(h:RowsIn F L i xs RN)(hF:Frz.le F G):RowsIn G L i xs RN:=
 ⟨h.len,fun j hj=>by obtain⟨id,cs,c',h1,h2,h3⟩:=h.at_ j hj;exact⟨id,cs,c',h1,h2,h3.mono hF⟩⟩
theorem own_fill1(x b r:List (Nat×Blk))(y:Nat×Blk)(own:Own):OwnLe (b::(r++[y])::own) ([y]::b::r::own):=by
 refine OwnLe.flat ?_
 have:=List.perm_middle (a:=y) (l₁:=b++r) (l₂:=own.flatten)
 simpa using this.symm
theorem own_fill2(r f bo rb:List (Nat×Blk))(own:Own):OwnLe (f::bo::(rb++r)::own) ([]::r::f::bo::rb::own):=by
 refine OwnLe.flat ?_
 have:=List.perm_append_comm (l₁:=r) (l₂:=f++(bo++rb))
 have:=this.append_right own.flatten
 simpa using this
theorem ders_append{g:Gram}{w:List Nat}{l2:List Sym}:∀{l:List Sym} {i m j:Nat},Ders g w l i m→Ders g w l2 m j→Ders g w (l++l2) i j
 | [],i,m,j,h1,h2=>by rw[ders_nil.1 h1];exact h2
 | a::l,i,m,j,h1,h2=>by
  obtain⟨p,h3,h4⟩:=ders_cons.1 h1
  exact .cons h3 (ders_append h4 h2)
def DW(g:Gram)(y:List Nat)(l:List Sym):Prop:=Ders g y l 0 y.length
theorem DW.app{g:Gram}{y z:List Nat}{l m:List Sym}(h1:DW g y l)(h2:DW g z m):DW g (y++z) (l++m):=by
 have h3:=ders_wrap (u:=[]) (v:=z) h1
 have h4:=ders_wrap (u:=y) (v:=[]) h2
 simp only[List.nil_append,List.append_nil,List.length_nil,Nat.zero_add,Nat.add_zero] at h3 h4
 unfold DW
 rw[List.length_append]
 exact ders_append h3 h4
theorem DW.one{g:Gram}{y:List Nat}{s:Sym}(h:Der g y s 0 y.length):DW g y [s]:=.cons h .nil
structure HNext(g:Gram)(v:List Nat)(xs:List Bool):Prop where
 len:xs.length=g.terms+1
 set:∃E L,EndsIn g E∧Sets (trimmed E g) v L∧(∀k,k≤v.length→∀x∈L k,QP (trimmed E g) v k x)∧∀t,t<g.terms→(xs[t]?=some true↔∃x∈L v.length,nextOf (trimmed E g).rules x=some ⟨true,t⟩)
 done:xs[g.terms]?=some (derives g v g.start 0 v.length)
def listG:Gram:=⟨1,1,0,[⟨0,[⟨false,0⟩,⟨true,0⟩]⟩,⟨0,[⟨true,0⟩]⟩]⟩
theorem listG_valid:Valid listG where
 range:=⟨by decide,by decide,by decide,by decide,by decide⟩
 right:=by
  intro r hr
  simp only[listG,List.mem_cons,List.not_mem_nil,or_false] at hr
  rcases hr with rfl | rfl
  ·refine⟨by decide,by decide,fun y hy=>?_⟩
   simp only[List.mem_cons,List.not_mem_nil,or_false] at hy
   rcases hy with rfl | rfl<;>simp[SymOk,listG]
  ·refine⟨by decide,by decide,fun y hy=>?_⟩
   simp only[List.mem_cons,List.not_mem_nil,or_false] at hy
   subst hy;simp[SymOk,listG]
 nodup:=by decide
theorem listG_none:∀{s:Sym} {i j:Nat},Der listG [] s i j→False:=by
 intro s i j h
 refine Der.rec (motive_1:=fun s i j _=>False) (motive_2:=fun l i j _=>l≠[]→False) ?_ ?_ ?_ ?_ h
 ·intro t i h;simp at h
 ·intro r i j hr _ ih
  simp only[listG,List.mem_cons,List.not_mem_nil,or_false] at hr
  rcases hr with rfl | rfl<;>exact ih (by simp)
 ·intro i h;exact h rfl
 ·intro s l i m j _ _ ih1 _ _;exact ih1
theorem g3list_spec(F:Frz):Abs.Spec CC 6 [] F [] fun F' v o=>o=[]∧∃a c,v=.agg ⟨gramCells listG a 2 c⟩∧Arr tRule F' a 2 c listG.rules:=by
 refine Abs.Spec.fn (n:=12) Tryd.func6 rfl rfl fun own=>?_
 refine AW.seq (AW.reg ?_)
 refine WT.allocT hT Z Z Z Z Z Z (fun i0 hi0=>?_)
 refine zB7 ?_
 refine WT.allocT hT Z Z Z Z Z Z (fun i1 hi1=>?_)
 refine zB7 ?_
 refine WT.buildT hT Z Z Z Z Z Z Z Z Z Z Z Z Z Z (fun i5 hi5=>?_)
 refine zB7 ?_
 refine WT.buildT hT Z Z Z Z Z Z Z Z Z Z Z Z Z Z (fun i8 hi8=>?_)
 refine zB7 ?_
 refine WT.buildT hT Z Z Z Z Z Z Z Z Z Z Z Z Z Z (fun i10 hi10=>?_)
 refine WT.freezeAll 2 Z Z (fun F1 hF1 hB1=>?_)
 refine WT.freezeAll 1 Z Z (fun F2 hF2 hB2=>?_)
 refine WT.freezeAll 0 Z Z (fun F3 hF3 hB3=>?_)
 have h5:Arr tSym F3 (some ⟨i5,0,none⟩) 2 2 [⟨false,0⟩,⟨true,0⟩]:=(Bld.frozen (F:=F) (B:=[(i5,.cells false [.bool false,.int .i64 0,.bool true,.int .i64 0])]) ⟨rfl,.inr ⟨i5,_,rfl,rfl,rfl,Cells.cons (R:=tSym) (x:=⟨false,0⟩) (l:=[_,_]) rfl (Cells.single (R:=tSym) (x:=⟨true,0⟩) rfl),by decide⟩⟩ hF1 hB1).mono (hF2.trans hF3)
 have h8:Arr tSym F3 (some ⟨i8,0,none⟩) 1 2 [⟨true,0⟩]:=(Bld.frozen (F:=F1) (B:=[(i8,.cells false [.bool true,.int .i64 0])]) ⟨rfl,.inr ⟨i8,_,rfl,rfl,rfl,Cells.single (R:=tSym) (x:=⟨true,0⟩) rfl,by decide⟩⟩ hF2 hB2).mono hF3
 have h10:Arr tRule F3 (some ⟨i10,0,none⟩) 2 2 listG.rules:=Bld.frozen (F:=F3) (B:=[(i10,.cells false [.int .i64 0,.slice (some ⟨i5,0,none⟩) 2 2,.int .i64 0,.slice (some ⟨i8,0,none⟩) 1 2])]) ⟨rfl,.inr ⟨i10,_,rfl,rfl,rfl,Cells.cons (R:=tRule) (x:=⟨0,[⟨false,0⟩,⟨true,0⟩]⟩) (l:=[_,_]) ⟨_,_,_,rfl,h5⟩ (Cells.single (R:=tRule) (x:=⟨0,[⟨true,0⟩]⟩) ⟨_,_,_,rfl,h8⟩),by decide⟩⟩ (Frz.le.refl _) hB3
 refine zB7 ?_
 exact AW.ret ⟨_,[],⟨_,_,⟨_,rfl,fun G h0 s0=>loadA_cells (s0.has (p:=4) rfl me) (readT_ok hT rfl)⟩,rfl,rfl⟩,zsb,rfl,_,_,rfl,h10⟩
structure SySt where
 a:Option Addr
 n:Nat
 c:Nat
 B:List (Nat×Blk)
 xs:List Sym
structure Way where
 cost:Nat
 w:List Nat
def val4:List Nat→Nat
 | []=>0
 | t::l=>t*4 ^ l.length+val4 l
def Low(l:List Nat):Prop:=∀t∈l,t<4
theorem val4_lt:∀{l:List Nat},Low l→val4 l<4 ^ l.length
 | [],_=>by simp[val4]
 | t::l,h=>by
  have h1:=val4_lt (l:=l) (fun x hx=>h x (List.mem_cons_of_mem _ hx))
  have h2:=h t me
  have h3:t*4 ^ l.length≤3*4 ^ l.length:=Nat.mul_le_mul_right _ zo
  rw[val4,List.length_cons,Nat.pow_succ]
  omega
theorem val4_app:∀(l m:List Nat),val4 (l++m)=val4 l*4 ^ m.length+val4 m
 | [],m=>by simp[val4]
 | t::l,m=>by
  rw[List.cons_append,val4,val4,val4_app l m,List.length_append,Nat.pow_add,Nat.add_mul,Nat.mul_assoc]
  omega
theorem val4_inj:∀{l m:List Nat},Low l→Low m→l.length=m.length→val4 l=val4 m→l=m
 | [],[],_,_,_,_=>rfl
 | [],_::_,_,_,h,_=>by simp at h
 | _::_,[],_,_,h,_=>by simp at h
 | a::l,b::m,hl,hm,h,e=>by
  have hl':Low l:=fun x hx=>hl x (List.mem_cons_of_mem _ hx)
  have hm':Low m:=fun x hx=>hm x (List.mem_cons_of_mem _ hx)
  have hlen:l.length=m.length:=by simpa using h
  have h1:=val4_lt hl'
  have h2:=val4_lt hm'
  rw[val4,val4,hlen] at e
  rw[hlen] at h1
  have hab:a=b:=by
   rcases Nat.lt_trichotomy a b with h3 | h3 | h3
   ·have:=Nat.mul_le_mul_right (4 ^ m.length) (show a+1≤b by omega)
    rw[Nat.add_mul,Nat.one_mul] at this
    omega
   ·exact h3
   ·have:=Nat.mul_le_mul_right (4 ^ m.length) (show b+1≤a by omega)
    rw[Nat.add_mul,Nat.one_mul] at this
    omega
  subst hab
  rw[val4_inj hl' hm' hlen zo]
theorem cmp_val4:∀{l m:List Nat},Low l→Low m→l.length=m.length→(cmpNats l m<0↔val4 l<val4 m)∧(cmpNats l m=0↔val4 l=val4 m)
 | [],[],_,_,_=>by simp[cmpNats,val4]
 | [],_::_,_,_,h=>by simp at h
 | _::_,[],_,_,h=>by simp at h
 | a::l,b::m,hl,hm,h=>by
  have hl':Low l:=fun x hx=>hl x (List.mem_cons_of_mem _ hx)
  have hm':Low m:=fun x hx=>hm x (List.mem_cons_of_mem _ hx)
  have hlen:l.length=m.length:=by simpa using h
  have h1:=val4_lt hl'
  have h2:=val4_lt hm'
  rw[hlen] at h1
  rw[cmpNats,val4,val4,hlen]
  rcases Nat.lt_trichotomy a b with h3 | h3 | h3
  ·have:=Nat.mul_le_mul_right (4 ^ m.length) (show a+1≤b by omega)
   rw[Nat.add_mul,Nat.one_mul] at this
   have hc:cmpInt (a:Int) (b:Int)=-1:=by unfold cmpInt;rw[if_pos zo]
   rw[hc,if_neg (by decide)]
   constructor<;>constructor<;>intro _<;>omega
  ·subst h3
   have hc:cmpInt (a:Int) (a:Int)=0:=by unfold cmpInt;omega
   rw[hc,if_pos rfl]
   obtain⟨h4,h5⟩:=cmp_val4 hl' hm' hlen
   exact⟨h4.trans zo,h5.trans zo⟩
  ·have:=Nat.mul_le_mul_right (4 ^ m.length) (show b+1≤a by omega)
   rw[Nat.add_mul,Nat.one_mul] at this
   have hc:cmpInt (a:Int) (b:Int)=1:=by unfold cmpInt;rw[if_neg zo,if_pos zo]
   rw[hc,if_neg (by decide)]
   constructor<;>constructor<;>intro _<;>omega
def Way.le(a b:Way):Prop:=a.cost<b.cost∨a.cost=b.cost∧(a.w.length<b.w.length∨a.w.length=b.w.length∧val4 a.w≤val4 b.w)
theorem Way.le_refl(a:Way):a.le a:=.inr ⟨rfl,.inr ⟨rfl,Nat.le_refl _⟩⟩
theorem Way.le_trans{a b c:Way}(h:a.le b)(h2:b.le c):a.le c:=by
 unfold Way.le at *;omega
theorem Way.le_of_not{a b:Way}(h:¬a.le b):b.le a:=by
 unfold Way.le at *;omega
theorem Way.le_cost{a b:Way}(h:a.le b):a.cost≤b.cost:=by unfold Way.le at h;omega
def Way.app(a b:Way):Way:=⟨a.cost+b.cost,a.w++b.w⟩
theorem Way.app_mono{a a' b b':Way}(h:a.le a')(h2:b.le b'):(a.app b).le (a'.app b'):=by
 unfold Way.le at h h2 ⊢
 simp only[Way.app,List.length_append,val4_app]
 rcases h with h | ⟨h,h | ⟨h,h3⟩⟩
 ·left;omega
 ·rcases h2 with h2 | ⟨h2,h4⟩
  ·left;omega
  ·right;exact⟨by omega,.inl zo⟩
 ·rcases h2 with h2 | ⟨h2,h2 | ⟨h4,h5⟩⟩
  ·left;omega
  ·right;exact⟨by omega,.inl zo⟩
  ·right
   refine⟨by omega,.inr ⟨by omega,?_⟩⟩
   rw[h4]
   have:=Nat.mul_le_mul_right (4 ^ b'.w.length) h3
   omega
def cmpWay(a b:Way):Int:=orInt [cmpInt a.cost b.cost,cmpInt a.w.length b.w.length,cmpNats a.w b.w]
theorem cmpWay_lt{a b:Way}(ha:Low a.w)(hb:Low b.w):cmpWay a b<0↔¬b.le a:=by
 unfold cmpWay Way.le
 simp only[orInt]
 have hc:∀x y:Nat,(cmpInt (x:Int) (y:Int)=0↔x=y)∧(cmpInt (x:Int) (y:Int)<0↔x<y):=fun x y=>by
  unfold cmpInt
  constructor
  ·split
   ·simp;omega
   ·split
    ·simp;omega
    ·simp;omega
  ·split
   ·simp;omega
   ·split
    ·simp;omega
    ·simp;omega
 by_cases h1:a.cost=b.cost
 ·rw[if_pos ((hc _ _).1.2 h1)]
  by_cases h2:a.w.length=b.w.length
  ·rw[if_pos ((hc _ _).1.2 h2)]
   obtain⟨h3,h4⟩:=cmp_val4 ha hb h2
   by_cases h5:cmpNats a.w b.w=0
   ·rw[if_pos h5]
    have:=h4.1 h5
    omega
   ·rw[if_neg h5,h3]
    have:¬val4 a.w=val4 b.w:=fun e=>h5 (h4.2 e)
    omega
  ·rw[if_neg (fun e=>h2 ((hc _ _).1.1 e)),(hc _ _).2]
   omega
 ·rw[if_neg (fun e=>h1 ((hc _ _).1.1 e)),(hc _ _).2]
  omega
def P4(n:Nat):Nat:=4 ^ n
theorem P4_le{l n:Nat}(h:l≤n):4 ^ l≤P4 n:=Nat.pow_le_pow_right (by decide) h
def Way.rank(a:Way):Nat:=(a.cost*1000+a.w.length)*P4 1000+val4 a.w
theorem rank_lt{a b:Way}(ha:Low a.w)(hb:Low b.w)(hla:a.w.length<1000)(hlb:b.w.length<1000)(h:¬b.le a):a.rank<b.rank:=by
 have h1:=val4_lt ha
 have h2:=val4_lt hb
 have p1:4 ^ a.w.length≤P4 1000:=P4_le zo
 unfold Way.le at h
 unfold Way.rank
 generalize P4 1000=P at *
 rcases Nat.lt_or_ge (a.cost*1000+a.w.length) (b.cost*1000+b.w.length) with h3 | h3
 ·have:=Nat.mul_le_mul_right P (show a.cost*1000+a.w.length+1≤b.cost*1000+b.w.length by omega)
  rw[Nat.add_mul,Nat.one_mul] at this
  omega
 ·have e:a.cost*1000+a.w.length=b.cost*1000+b.w.length:=by omega
  rw[e]
  omega
theorem rank_bound{a:Way}(ha:Low a.w)(hc:a.cost≤1000)(hl:a.w.length<1000):a.rank<2000000*P4 1000:=by
 have h1:=val4_lt ha
 have p1:4 ^ a.w.length≤P4 1000:=P4_le zo
 unfold Way.rank
 generalize P4 1000=P at *
 have:=Nat.mul_le_mul_right P (show a.cost*1000+a.w.length+1≤2000000 by omega)
 rw[Nat.add_mul,Nat.one_mul] at this
 omega
inductive Ed(w:List Nat)(j:Nat):Nat→List Nat→Nat→Prop
 | nil:j≤w.length→Ed w j j [] 0
 | keep {i t:Nat} {x:List Nat} {c:Nat}:w[i]?=some t→Ed w j (i+1) x c→Ed w j i (t::x) c
 | del {i:Nat} {x:List Nat} {c:Nat}:Ed w j (i+1) x c→Ed w j i x (c+1)
 | ins {i t:Nat} {x:List Nat} {c:Nat}:Ed w j i x c→Ed w j i (t::x) (c+1)
 | rep {i t:Nat} {x:List Nat} {c:Nat}:Ed w j (i+1) x c→Ed w j i (t::x) (c+1)
theorem Ed.bnd{w:List Nat}{i j:Nat}{x:List Nat}{c:Nat}(h:Ed w j i x c):i≤j∧j≤w.length∧x.length≤c+(j-i)∧j-i≤x.length+c:=by
 induction h with
 | nil h=>exact⟨Nat.le_refl _,h,by simp,by simp⟩
 | keep _ _ ih=>simp only[List.length_cons];omega
 | del _ ih=>omega
 | ins _ ih=>simp only[List.length_cons];omega
 | rep _ ih=>simp only[List.length_cons];omega
theorem Ed.dels{w:List Nat}{j:Nat}(hj:j≤w.length):∀(k i:Nat),i+k=j→Ed w j i [] k
 | 0, i, h => by obtain rfl : i = j := by omega
                 exact .nil hj
 | k+1,i,h=>.del (Ed.dels hj k (i+1) zo)
theorem Ed.empty{w:List Nat}{i j:Nat}{c:Nat}{x:List Nat}(h:Ed w j i x c):x=[]→c=j-i:=by
 induction h with
 | nil h=>intro _;omega
 | keep=>intro h;cases h
 | del h ih=>intro e;have:=ih e;have:=h.bnd;omega
 | ins=>intro h;cases h
 | rep=>intro h;cases h
theorem Ed.app{w:List Nat}{i m j:Nat}{x y:List Nat}{c d:Nat}(h:Ed w m i x c)(h2:Ed w j m y d):Ed w j i (x++y) (c+d):=by
 induction h with
 | nil _=>rw[Nat.zero_add];exact h2
 | keep h _ ih=>exact .keep h ih
 | del _ ih=>rw[Nat.add_right_comm];exact .del ih
 | ins _ ih=>rw[Nat.add_right_comm];exact .ins ih
 | rep _ ih=>rw[Nat.add_right_comm];exact .rep ih
theorem Ed.split{w:List Nat}{i j:Nat}{z:List Nat}{c:Nat}(h:Ed w j i z c):∀x y,z=x++y→∃m c1 c2,Ed w m i x c1∧Ed w j m y c2∧c1+c2=c:=by
 induction h with
 | nil h=>
  intro x y e
  obtain⟨rfl,rfl⟩:=List.append_eq_nil_iff.1 e.symm
  exact⟨j,0,0,.nil h,.nil h,rfl⟩
 | @keep i t x0 c h h2 ih=>
  intro x y e
  have hb:=h2.bnd
  cases x with
  | nil=>exact⟨i,0,c,.nil zo,by rw[←show t::x0=y from e];exact .keep h h2,by omega⟩
  | cons a x=>
   injection e with e1 e2
   subst e1
   obtain⟨m,c1,c2,h3,h4,h5⟩:=ih x y e2
   exact⟨m,c1,c2,.keep h h3,h4,h5⟩
 | @del i x0 c h2 ih=>
  intro x y e
  obtain⟨m,c1,c2,h3,h4,h5⟩:=ih x y e
  exact⟨m,c1+1,c2,.del h3,h4,by omega⟩
 | @ins i t x0 c h2 ih=>
  intro x y e
  have hb:=h2.bnd
  cases x with
  | nil=>exact⟨i,0,c+1,.nil zo,by rw[←show t::x0=y from e];exact .ins h2,by omega⟩
  | cons a x=>
   injection e with e1 e2
   subst e1
   obtain⟨m,c1,c2,h3,h4,h5⟩:=ih x y e2
   exact⟨m,c1+1,c2,.ins h3,h4,by omega⟩
 | @rep i t x0 c h2 ih=>
  intro x y e
  have hb:=h2.bnd
  cases x with
  | nil=>exact⟨i,0,c+1,.nil zo,by rw[←show t::x0=y from e];exact .rep h2,by omega⟩
  | cons a x=>
   injection e with e1 e2
   subst e1
   obtain⟨m,c1,c2,h3,h4,h5⟩:=ih x y e2
   exact⟨m,c1+1,c2,.rep h3,h4,by omega⟩
def oneC(w:List Nat)(t i j:Nat):Nat:=if t∈part w i j then j-i-1 else if i<j then j-i else 1
theorem part_cons{w:List Nat}{i j:Nat}(hi:i<j)(hj:j≤w.length):∃s,w[i]?=some s∧part w i j=s::part w (i+1) j:=by
 obtain⟨s,hs⟩:∃x,w[i]?=some x:=⟨_,gE zo⟩
 refine⟨s,hs,?_⟩
 have:=part_app (v:=w) (i:=i) (m:=i+1) (j:=j) zo zo hj
 rw[part_one hs] at this
 exact this.symm
theorem Ed.one_le{w:List Nat}{i j:Nat}{x:List Nat}{c:Nat}(h:Ed w j i x c):∀t,x=[t]→oneC w t i j≤c:=by
 induction h with
 | nil=>intro t e;cases e
 | @keep i s x0 c h h2 ih=>
  intro t e
  injection e with e1 e2
  subst e1
  have hb:=h2.bnd
  have hc:=h2.empty e2
  obtain⟨s',hs',hp⟩:=part_cons (w:=w) (i:=i) (j:=j) zo hb.2.1
  obtain rfl:s=s':=by rw[h] at hs';exact Option.some.inj hs'
  unfold oneC
  rw[hp,if_pos me]
  omega
 | @del i x0 c h2 ih=>
  intro t e
  have:=ih t e
  have hb:=h2.bnd
  obtain⟨s',hs',hp⟩:=part_cons (w:=w) (i:=i) (j:=j) zo hb.2.1
  unfold oneC at this ⊢
  rw[hp]
  by_cases h1:t∈part w (i+1) j
  ·rw[if_pos (List.mem_cons_of_mem _ h1)]
   rw[if_pos h1] at this
   have h2:(part w (i+1) j).length=j-(i+1):=part_len hb.2.1
   have h3:0<(part w (i+1) j).length:=List.length_pos_of_mem h1
   omega
  ·rw[if_neg h1] at this
   by_cases h3:i+1<j
   ·rw[if_pos h3] at this
    split
    ·omega
    ·split<;>omega
   ·rw[if_neg h3] at this
    split
    ·omega
    ·split<;>omega
 | @ins i s x0 c h2 ih=>
  intro t e
  injection e with e1 e2
  have hc:=h2.empty e2
  have hb:=h2.bnd
  unfold oneC
  split
  ·omega
  ·split<;>omega
 | @rep i s x0 c h2 ih=>
  intro t e
  injection e with e1 e2
  have hc:=h2.empty e2
  have hb:=h2.bnd
  unfold oneC
  split
  ·omega
  ·split<;>omega
theorem Ed.one{w:List Nat}{t j:Nat}(hj:j≤w.length):∀(k i:Nat),i+k=j→Ed w j i [t] (oneC w t i j)
 | 0,i,h=>by
  obtain rfl:i=j:=by omega
  have e:oneC w t i i=1:=by
   unfold oneC
   rw[part_nil hj,if_neg (by simp),if_neg zo]
  rw[e]
  exact .ins (.nil hj)
 | k+1,i,h=>by
  obtain⟨s,hs,hp⟩:=part_cons (w:=w) (i:=i) (j:=j) zo hj
  have ih:=Ed.one (t:=t) hj k (i+1) zo
  by_cases h1:t=s
  ·subst h1
   have e:oneC w t i j=k:=by unfold oneC;rw[hp,if_pos me];omega
   rw[e]
   exact .keep hs (Ed.dels hj k (i+1) zo)
  ·by_cases h2:t∈part w (i+1) j
   ·have e:oneC w t i j=oneC w t (i+1) j+1:=by
     have h3:0<(part w (i+1) j).length:=List.length_pos_of_mem h2
     rw[part_len hj] at h3
     unfold oneC;rw[hp,if_pos (List.mem_cons_of_mem _ h2),if_pos h2];omega
    rw[e]
    exact .del ih
   ·have e:oneC w t i j=k+1:=by
     unfold oneC;rw[hp,if_neg (by simp[h1,h2]),if_pos zo];omega
    rw[e]
    exact .rep (Ed.dels hj k (i+1) zo)
theorem Ed.all{w:List Nat}{j:Nat}(hj:j≤w.length):∀(x:List Nat) (i:Nat),i≤j→∃c,Ed w j i x c
 | [],i,h=>⟨_,Ed.dels hj (j-i) i zo⟩
 | t::x,i,h=>by obtain⟨c,hc⟩:=Ed.all hj x i h;exact⟨c+1,.ins hc⟩
abbrev YTab:=Nat→Nat→Nat→Option Way
def symY(w:List Nat)(T:YTab)(s:Sym)(i j:Nat):Option Way:=if s.term=true then some ⟨oneC w s.n i j,[s.n]⟩ else T s.n i j
def ChW(Y:Sym→Nat→Nat→Option Way):List Sym→Nat→Nat→Way→Prop
 | [],i,j,a=>i=j∧a=⟨0,[]⟩
 | s::l,i,j,a=>∃m b c,i≤m∧m≤j∧Y s i m=some b∧ChW Y l m j c∧a=b.app c
theorem Way.app_nil(a:Way):a.app ⟨0,[]⟩=a:=by cases a;simp[Way.app]
theorem Way.nil_app(a:Way):Way.app ⟨0,[]⟩ a=a:=by cases a;simp[Way.app]
theorem Way.app_assoc(a b c:Way):(a.app b).app c=a.app (b.app c):=by cases a;cases b;cases c;simp[Way.app,Nat.add_assoc]
theorem chW_snoc{Y:Sym→Nat→Nat→Option Way}{s:Sym}:∀{l:List Sym} {i j:Nat} {a:Way},ChW Y (l++[s]) i j a↔∃m b c,i≤m∧m≤j∧ChW Y l i m b∧Y s m j=some c∧a=b.app c
 | [],i,j,a=>by
  constructor
  ·rintro⟨m,b,c,h1,h2,h3,⟨rfl,rfl⟩,rfl⟩
   exact⟨i,⟨0,[]⟩,b,Nat.le_refl _,h1,⟨rfl,rfl⟩,h3,by rw[Way.app_nil,Way.nil_app]⟩
  ·rintro⟨m,b,c,h1,h2,⟨rfl,rfl⟩,h3,rfl⟩
   exact⟨j,c,⟨0,[]⟩,h2,Nat.le_refl _,h3,⟨rfl,rfl⟩,by rw[Way.app_nil,Way.nil_app]⟩
 | x::l,i,j,a=>by
  constructor
  ·rintro⟨m,b,c,h1,h2,h3,h4,rfl⟩
   obtain⟨q,b2,c2,h5,h6,h7,h8,rfl⟩:=chW_snoc.1 h4
   exact⟨q,b.app b2,c2,by omega,h6,⟨m,b,b2,h1,h5,h3,h7,rfl⟩,h8,(Way.app_assoc _ _ _).symm⟩
  ·rintro⟨q,_,c2,h1,h6,⟨m,b,b2,h2,h5,h3,h7,rfl⟩,h8,rfl⟩
   exact⟨m,b,b2.app c2,h2,by omega,h3,chW_snoc.2 ⟨q,b2,c2,h5,h6,h7,h8,rfl⟩,Way.app_assoc _ _ _⟩
def RuleD(Y:Sym→Nat→Nat→Option Way)(l:List Sym)(i j:Nat)(a:Way):Prop:=if l=[] then i≤j∧a=⟨j-i,[]⟩ else ChW Y l i j a
def GoodW(g:Gram)(w:List Nat)(s:Sym)(i j:Nat)(a:Way):Prop:=Der g a.w s 0 a.w.length∧Ed w j i a.w a.cost
def YSound(g:Gram)(w:List Nat)(T:YTab):Prop:=∀n i j a,T n i j=some a→GoodW g w ⟨false,n⟩ i j a
theorem symY_good{g:Gram}{w:List Nat}{T:YTab}(h:YSound g w T){s:Sym}{i j:Nat}{a:Way}(hij:i≤j)(hj:j≤w.length)(ha:symY w T s i j=some a):GoodW g w s i j a:=by
 obtain⟨b,n⟩:=s
 unfold symY at ha
 cases b with
 | true=>
  rw[if_pos rfl] at ha
  cases ha
  exact⟨.term rfl,Ed.one hj (j-i) i zo⟩
 | false=>rw[if_neg (by simp)] at ha;exact h n i j a ha
theorem chW_good{g:Gram}{w:List Nat}{T:YTab}(h:YSound g w T):∀{l:List Sym} {i j:Nat} {a:Way},j≤w.length→ChW (symY w T) l i j a→DW g a.w l∧Ed w j i a.w a.cost
 | [],i,j,a,hj,⟨h1,h2⟩=>by subst h1;subst h2;exact⟨.nil,.nil hj⟩
 | s::l,i,j,a,hj,⟨m,b,c,h1,h2,h3,h4,h5⟩=>by
  subst h5
  obtain⟨g1,g2⟩:=symY_good h h1 zo h3
  obtain⟨g3,g4⟩:=chW_good h hj h4
  exact⟨DW.app (l:=[s]) (.one g1) g3,g2.app g4⟩
theorem ruleD_good{g:Gram}{w:List Nat}{T:YTab}(h:YSound g w T){r:Rule}(hr:r∈g.rules){i j:Nat}{a:Way}(hj:j≤w.length)(ha:RuleD (symY w T) r.right i j a):GoodW g w ⟨false,r.left⟩ i j a:=by
 unfold RuleD at ha
 split at ha
 ·rename_i e
  obtain⟨h1,rfl⟩:=ha
  exact⟨.non hr (by rw[e];exact .nil),Ed.dels hj (j-i) i zo⟩
 ·obtain⟨h1,h2⟩:=chW_good h hj ha
  exact⟨.non hr h1,h2⟩
def YClosed(w:List Nat)(T:YTab)(r:Rule)(k:Nat):Prop:=∀i,i<k→∀j,j≤w.length→∀a,RuleD (symY w T) r.right i j a→∃z,T r.left i j=some z∧z.le a
theorem table_least{g:Gram}{w:List Nat}{T:YTab}(h:∀r∈g.rules,YClosed w T r (w.length+1)){x:List Nat}:∀{s:Sym} {p q:Nat},Der g x s p q→q≤x.length→∀i j c,Ed w j i (part x p q) c→∃z,symY w T s i j=some z∧z.le ⟨c,part x p q⟩:=by
 intro s p q h1
 refine Der.rec (motive_1:=fun s p q _=>q≤x.length→∀i j c,Ed w j i (part x p q) c→∃z,symY w T s i j=some z∧z.le ⟨c,part x p q⟩)
  (motive_2:=fun l p q _=>q≤x.length→l≠[]→∀i j c,Ed w j i (part x p q) c→∃z,ChW (symY w T) l i j z∧z.le ⟨c,part x p q⟩) ?_ ?_ ?_ ?_ h1
 ·intro t p h2 hq i j c he
  rw[part_one h2] at he ⊢
  refine⟨_,by unfold symY;rw[if_pos rfl],?_⟩
  have:=he.one_le t rfl
  show oneC w t i j<c∨oneC w t i j=c∧(1<1∨1=1∧val4 [t]≤val4 [t])
  omega
 ·intro r p q hr hd ih hq i j c he
  have hb:=he.bnd
  by_cases hl:r.right=[]
  ·rw[hl] at hd
   obtain rfl:=ders_nil.1 hd
   rw[part_nil hq] at he ⊢
   have hc:=he.empty rfl
   obtain⟨z,h3,h4⟩:=h r hr i zo j hb.2.1 ⟨j-i,[]⟩ (by unfold RuleD;rw[if_pos hl];exact⟨hb.1,rfl⟩)
   exact⟨z,by unfold symY;rw[if_neg (by simp)];exact h3,by rw[hc];exact h4⟩
  ·obtain⟨z,h3,h4⟩:=ih hq hl i j c he
   obtain⟨y,h5,h6⟩:=h r hr i zo j hb.2.1 z (by unfold RuleD;rw[if_neg hl];exact h3)
   exact⟨y,by unfold symY;rw[if_neg (by simp)];exact h5,Way.le_trans h6 h4⟩
 ·intro p _ hl;exact absurd rfl hl
 ·intro s l p m q hd hds ih1 ih2 hq _ i j c he
  have hpm:=der_le hd
  have hmq:=ders_le hds
  rcases List.eq_nil_or_concat l with hl | _
  ·subst hl
   obtain rfl:=ders_nil.1 hds
   obtain⟨z,h3,h4⟩:=ih1 hq i j c he
   have hb:=he.bnd
   exact⟨z,⟨j,z,⟨0,[]⟩,hb.1,Nat.le_refl _,h3,⟨rfl,rfl⟩,(Way.app_nil z).symm⟩,h4⟩
  ·by_cases hl:l=[]
   ·subst hl
    obtain rfl:=ders_nil.1 hds
    obtain⟨z,h3,h4⟩:=ih1 hq i j c he
    have hb:=he.bnd
    exact⟨z,⟨j,z,⟨0,[]⟩,hb.1,Nat.le_refl _,h3,⟨rfl,rfl⟩,(Way.app_nil z).symm⟩,h4⟩
   ·have hp:=part_app (v:=x) hpm hmq hq
    obtain⟨k,c1,c2,h3,h4,h5⟩:=he.split (part x p m) (part x m q) hp.symm
    obtain⟨z1,h6,h7⟩:=ih1 zo i k c1 h3
    obtain⟨z2,h8,h9⟩:=ih2 hq hl k j c2 h4
    refine⟨z1.app z2,⟨k,z1,z2,h3.bnd.1,h4.bnd.1,h6,h8,rfl⟩,?_⟩
    have:=Way.app_mono h7 h9
    rw[show Way.app ⟨c1,part x p m⟩ ⟨c2,part x m q⟩=⟨c,part x p q⟩ by simp[Way.app,hp,h5]] at this
    exact this
def tWay:Ty (Option Way) where
 size:=4
 rel:=fun F l x=>match x with
  | none=>l=[.int .i64 0,.int .i64 0,.slice none 0 0,.bool false]
  | some a=>∃p n c,l=[.int .i64 (a.cost:Nat),.int .i64 (n:Nat),.slice p n c,.bool true]∧Arr tNat F p n c a.w
 len:=fun F l x h=>by
  cases x with
  | none=>rw[h];rfl
  | some w=>obtain⟨a,n,c,h,_⟩:=h;rw[h];rfl
 one:=fun F l x h=>by
  cases x with
  | none=>rw[h];rfl
  | some w=>obtain⟨a,n,c,h,_⟩:=h;rw[h];rfl
 mono:=fun F G l x hF h=>by
  cases x with
  | none=>exact h
  | some w=>obtain⟨a,n,c,h1,h2⟩:=h;exact⟨a,n,c,h1,h2.mono hF⟩
def lessY:Option Way→Option Way→Bool
 | none,_=>false
 | some _,none=>true
 | some a,some b=>decide (cmpWay a b<0)
theorem rless_spec(F:Frz){lx ly:List Value}{x y:Option Way}(hx:tWay.rel F lx x)(hy:tWay.rel F ly y)(h1:∀a,x=some a→a.w.length≤1000)(h2:∀a,y=some a→a.w.length≤1000) :
  Abs.Spec CC 25 [.agg ⟨lx⟩,.agg ⟨ly⟩] F [] fun _ v o=>o=[]∧v=.bool (lessY x y):=by
 have key:∀(m n k e:Int) (a p:Option Addr) (an pn c d:Nat) (b1 b2:Bool),(b1&&b2)=false→Abs.Spec CC 25 [.agg ⟨[.int .i64 m,.int .i64 n,.slice a an c,.bool b1]⟩,.agg ⟨[.int .i64 k,.int .i64 e,.slice p pn d,.bool b2]⟩] F [] fun _ v o=>o=[]∧v=.bool b1:=by
  intro m n k e a p an pn c d b1 b2 hb
  refine Abs.Spec.fn (n:=33) Tryd.func25 rfl rfl fun own=>?_
  refine AW.seq (AW.reg ?_)
  refine WT.boxT Z Z Z Z Z Z (fun i2 hi2=>?_)
  refine WT.boxT Z Z Z Z Z Z (fun i3 hi3=>?_)
  refine zB4 ?_
  cases b2 with
  | false=>
   refine zB4 ?_
   refine AW.cond Z (fun _=>?_) (fun h=>(by cases h))
   refine zB4 ?_
   exact AW.ret ⟨_,[],⟨_,_,rfl,rfl,rfl⟩,zsb,rfl,rfl⟩
  | true=>
   obtain rfl:b1=false:=by simpa using hb
   refine zB4 ?_
   refine AW.cond Z (fun _=>?_) (fun h=>(by cases h))
   refine zB4 ?_
   exact AW.ret ⟨_,[],⟨_,_,rfl,rfl,rfl⟩,zsb,rfl,rfl⟩
 cases x with
 | none=>
  obtain rfl:lx=[.int .i64 0,.int .i64 0,.slice none 0 0,.bool false]:=hx
  cases y with
  | none=>obtain rfl:ly=[.int .i64 0,.int .i64 0,.slice none 0 0,.bool false]:=hy;exact key _ _ _ _ _ _ _ _ _ _ _ _ rfl
  | some b=>obtain⟨p,n,c,rfl,_⟩:=hy;exact key _ _ _ _ _ _ _ _ _ _ _ _ rfl
 | some a=>
  obtain⟨p,n,c,rfl,hw⟩:=hx
  have hwl:=hw.len
  have hw1:=h1 a rfl
  cases y with
  | none=>obtain rfl:ly=[.int .i64 0,.int .i64 0,.slice none 0 0,.bool false]:=hy;exact key _ _ _ _ _ _ _ _ _ _ _ _ rfl
  | some b=>
   obtain⟨q,m,d,rfl,hu⟩:=hy
   have hul:=hu.len
   have hu1:=h2 b rfl
   refine Abs.Spec.fn (n:=33) Tryd.func25 rfl rfl fun own=>?_
   refine AW.seq (AW.reg ?_)
   refine WT.boxT Z Z Z Z Z Z (fun i2 hi2=>?_)
   refine WT.boxT Z Z Z Z Z Z (fun i3 hi3=>?_)
   refine zB4 ?_
   refine AW.cond Z (fun h=>(by cases h)) (fun _=>?_)
   refine zB4 ?_
   refine AW.draw (ps:=[(6,4),(8,4),(11,4),(11,9),(13,4),(13,9)]) Z Z ?_
   refine zB4 ?_
   refine WT.callV Tryd.func32 Z Z Z Z Z Z (compare_spec _ _ _) (fun v hv=>?_)
   subst hv
   refine zB4 ?_
   refine WT.callV Tryd.func32 Z Z Z Z Z Z (compare_spec _ _ _) (fun v hv=>?_)
   subst hv
   refine zB4 ?_
   refine WT.callV Tryd.func10 Z Z Z Z Z Z (numCompare_spec _ hw hu zo zo) (fun v hv=>?_)
   subst hv
   skip
   refine WT.buildT hT Z Z Z Z Z Z Z Z Z Z Z Z Z Z (fun i9 hi9=>?_)
   refine WT.callLend 0 Tryd.func66 Z Z Z Z Z Z Z (fun G hG hBG=>or_spec G (l:=[cmpInt a.cost b.cost,cmpInt n m,cmpNats a.w b.w]) (Bld.frozen (F:=F) (B:=[(i9,.cells false [.int .i64 (cmpInt a.cost b.cost),.int .i64 (cmpInt n m),.int .i64 (cmpNats a.w b.w)])]) ⟨rfl,.inr ⟨i9,_,rfl,rfl,rfl,Cells.cons (l:=[_]) Z (Cells.cons (l:=[_]) Z (Cells.single (x:=cmpNats a.w b.w) rfl)),by decide⟩⟩ hG hBG) (by decide)) (fun v hv=>?_)
   subst hv
   refine zB4 ?_
   refine⟨zrC,?_⟩
   skip
   refine AW.ret ⟨_,[],⟨_,_,rfl,rfl,rfl⟩,zsb,rfl,?_⟩
   rw[lessY,cmpWay,←hwl,←hul];rfl
def hopeV(a b:Way):Option Way→Bool
 | none=>false
 | some z=>decide (orInt [cmpInt ((a.cost+b.cost:Nat):Int) z.cost,cmpInt ((a.w.length+b.w.length:Nat):Int) z.w.length] > 0)
theorem cmpInt_pos{x y:Nat}(h:cmpInt (x:Int) (y:Int) > 0):y<x:=by
 unfold cmpInt at h
 split at h
 ·omega
 ·split at h<;>omega
theorem hopeV_le{a b z:Way}(h:hopeV a b (some z)=true):z.le (a.app b):=by
 have h:orInt [cmpInt ((a.cost+b.cost:Nat):Int) z.cost,cmpInt ((a.w.length+b.w.length:Nat):Int) z.w.length] > 0:=of_decide_eq_true h
 simp only[orInt] at h
 unfold Way.le Way.app
 simp only[List.length_append]
 split at h
 ·rename_i h1
  have h1:=cmpInt_zero.1 h1
  split at h
  ·omega
  ·have:=cmpInt_pos h;omega
 ·have:=cmpInt_pos h;omega
theorem hope_none(F:Frz){lx ly lz:List Value}{x y z:Option Way}(hx:tWay.rel F lx x)(hy:tWay.rel F ly y)(hz:tWay.rel F lz z)(h:y=none) :
  Abs.Spec CC 64 [.agg ⟨lx⟩,.agg ⟨ly⟩,.agg ⟨lz⟩] F [] fun _ v o=>o=[]∧v=.bool true:=by
 subst h
 obtain rfl:ly=[.int .i64 0,.int .i64 0,.slice none 0 0,.bool false]:=hy
 have key:∀(x1 x2 x3:Value) (b:Bool) (z1 z2 z3 z4:Value),one x1=true→one x2=true→one x3=true→one z1=true→one z2=true→one z3=true→one z4=true→
   Abs.Spec CC 64 [.agg ⟨[x1,x2,x3,.bool b]⟩,.agg ⟨[.int .i64 0,.int .i64 0,.slice none 0 0,.bool false]⟩,.agg ⟨[z1,z2,z3,z4]⟩] F [] fun _ v o=>o=[]∧v=.bool true:=by
  intro x1 x2 x3 b z1 z2 z3 z4 _ _ _ _ _ _ _
  refine Abs.Spec.fn (n:=38) Tryd.func64 rfl rfl fun own=>?_
  refine AW.seq (AW.reg ?_)
  refine WT.boxT Z Z Z Z Z Z (fun i2 hi2=>?_)
  refine WT.boxT Z Z Z Z Z Z (fun i3 hi3=>?_)
  refine WT.boxT Z Z Z Z Z Z (fun i4 hi4=>?_)
  refine zB4 ?_
  cases b with
  | false=>
   refine zB4 ?_
   refine AW.cond Z (fun _=>?_) (fun h=>(by cases h))
   refine zB4 ?_
   exact AW.ret ⟨_,[],⟨_,_,rfl,rfl,rfl⟩,zsb,rfl,rfl⟩
  | true=>
   refine zB4 ?_
   refine AW.cond Z (fun _=>?_) (fun h=>(by cases h))
   refine zB4 ?_
   exact AW.ret ⟨_,[],⟨_,_,rfl,rfl,rfl⟩,zsb,rfl,rfl⟩
 cases x with
 | none=>
  obtain rfl:lx=[.int .i64 0,.int .i64 0,.slice none 0 0,.bool false]:=hx
  cases z with
  | none=>obtain rfl:lz=[.int .i64 0,.int .i64 0,.slice none 0 0,.bool false]:=hz;exact key _ _ _ _ _ _ _ _ Z Z Z Z Z Z Z
  | some b=>obtain⟨p,n,c,rfl,_⟩:=hz;exact key _ _ _ _ _ _ _ _ Z Z Z Z Z Z Z
 | some a=>
  obtain⟨p,n,c,rfl,_⟩:=hx
  cases z with
  | none=>obtain rfl:lz=[.int .i64 0,.int .i64 0,.slice none 0 0,.bool false]:=hz;exact key _ _ _ _ _ _ _ _ Z Z Z Z Z Z Z
  | some b=>obtain⟨p,n,c,rfl,_⟩:=hz;exact key _ _ _ _ _ _ _ _ Z Z Z Z Z Z Z
theorem hope_some(F:Frz){lx ly lz:List Value}{a b:Way}{z:Option Way}(hx:tWay.rel F lx (some a))(hy:tWay.rel F ly (some b))(hz:tWay.rel F lz z)(h1:a.cost+b.cost≤1000∧a.w.length+b.w.length≤1000) :
  Abs.Spec CC 64 [.agg ⟨lx⟩,.agg ⟨ly⟩,.agg ⟨lz⟩] F [] fun _ v o=>o=[]∧v=.bool (hopeV a b z):=by
 obtain⟨p,n,c,rfl,hp⟩:=hx
 obtain⟨q,m,d,rfl,hq⟩:=hy
 have hpl:=hp.len
 have hql:=hq.len
 cases z with
 | none=>
  obtain rfl:lz=[.int .i64 0,.int .i64 0,.slice none 0 0,.bool false]:=hz
  refine Abs.Spec.fn (n:=38) Tryd.func64 rfl rfl fun own=>?_
  refine AW.seq (AW.reg ?_)
  refine WT.boxT Z Z Z Z Z Z (fun i2 hi2=>?_)
  refine WT.boxT Z Z Z Z Z Z (fun i3 hi3=>?_)
  refine WT.boxT Z Z Z Z Z Z (fun i4 hi4=>?_)
  refine zC4 ?_
  refine AW.cond Z (fun h=>(by cases h)) (fun _=>?_)
  refine zC4 ?_
  refine AW.draw (ps:=[(12,10),(14,10),(15,10),(17,10)]) Z Z ?_
  refine zC4 ?_
  refine⟨zrC,?_⟩
  skip
  exact AW.ret ⟨_,[],⟨_,_,rfl,rfl,rfl⟩,zsb,rfl,rfl⟩
 | some z=>
  obtain⟨s,e,f,rfl,hs⟩:=hz
  have hsl:=hs.len
  refine Abs.Spec.fn (n:=38) Tryd.func64 rfl rfl fun own=>?_
  refine AW.seq (AW.reg ?_)
  refine WT.boxT Z Z Z Z Z Z (fun i2 hi2=>?_)
  refine WT.boxT Z Z Z Z Z Z (fun i3 hi3=>?_)
  refine WT.boxT Z Z Z Z Z Z (fun i4 hi4=>?_)
  refine zC4 ?_
  refine AW.cond Z (fun h=>(by cases h)) (fun _=>?_)
  refine zC4 ?_
  refine AW.draw (ps:=[(12,10),(14,10),(15,10),(17,10)]) Z Z ?_
  refine zC4 ?_
  refine WT.callV Tryd.func32 Z Z Z Z Z Z (compare_spec _ _ _) (fun v hv=>?_)
  subst hv
  refine zC4 ?_
  refine WT.callV Tryd.func32 Z Z Z Z Z Z (compare_spec _ _ _) (fun v hv=>?_)
  subst hv
  skip
  refine WT.buildT hT Z Z Z Z Z Z Z Z Z Z Z Z Z Z (fun i9 hi9=>?_)
  refine WT.callLend 0 Tryd.func66 Z Z Z Z Z Z Z (fun G hG hBG=>or_spec G (l:=[cmpInt ((a.cost+b.cost:Nat):Int) z.cost,cmpInt ((n+m:Nat):Int) e]) (Bld.frozen (F:=F) (B:=[(i9,.cells false [.int .i64 (cmpInt ((a.cost+b.cost:Nat):Int) z.cost),.int .i64 (cmpInt ((n+m:Nat):Int) e)])]) ⟨rfl,.inr ⟨i9,_,rfl,rfl,rfl,Cells.cons (l:=[_]) Z (Cells.single (x:=cmpInt ((n+m:Nat):Int) e) rfl),by decide⟩⟩ hG hBG) (by decide)) (fun v hv=>?_)
  subst hv
  refine zC4 ?_
  refine⟨zrC,?_⟩
  skip
  refine AW.ret ⟨_,[],⟨_,_,rfl,rfl,rfl⟩,zsb,rfl,?_⟩
  rw[hopeV,←hpl,←hql,←hsl];rfl
theorem rthen_spec(F:Frz){lx ly:List Value}{a b:Way}(hx:tWay.rel F lx (some a))(hy:tWay.rel F ly (some b))(h1:a.w.length+b.w.length≤1000∧a.cost+b.cost≤1000) :
  Abs.Spec CC 65 [.agg ⟨lx⟩,.agg ⟨ly⟩] F [] fun F' v o=>o=[]∧∃l,v=.agg ⟨l⟩∧tWay.rel F' l (some (a.app b)):=by
 obtain⟨p,n,c,rfl,hw⟩:=hx
 obtain⟨q,m,d,rfl,hu⟩:=hy
 have hwl:=hw.len
 have hul:=hu.len
 refine Abs.Spec.fn (n:=38) Tryd.func65 rfl rfl fun own=>?_
 refine AW.seq (AW.reg ?_)
 refine WT.boxT Z Z Z Z Z Z (fun i2 hi2=>?_)
 refine WT.boxT Z Z Z Z Z Z (fun i3 hi3=>?_)
 refine WT.allocT hT Z Z Z Z Z Z (fun i4 hi4=>?_)
 refine zC7 ?_
 refine WT.allocT hT Z Z Z Z Z Z (fun i5 hi5=>?_)
 refine zC7 ?_
 refine AW.cond Z (fun _=>?_) (fun h=>(by simp at h;omega))
 refine zC7 ?_
 refine WT.buildT hT Z Z Z Z Z Z Z Z Z Z Z Z Z Z (fun i29 hi29=>?_)
 refine WT.freezeAll 0 Z Z (fun F2 hF2 hB2=>?_)
 have hL:Arr (tList tNat) F2 (some ⟨i29,0,none⟩) 2 1 [a.w,b.w]:=Bld.frozen (F:=F) (B:=[(i29,.cells false [.slice p n c,.slice q m d])]) ⟨rfl,.inr ⟨i29,_,rfl,rfl,rfl,Cells.cons (R:=tList tNat) (x:=a.w) (l:=[_]) ⟨p,n,c,rfl,hw⟩ (Cells.single (R:=tList tNat) (x:=b.w) ⟨q,m,d,rfl,hu⟩),by decide⟩⟩ hF2 hB2
 have hfl:[a.w,b.w].flatten=a.w++b.w:=by simp
 refine WT.callF0 Tryd.func36 Z Z Z Z Z Z (numConcat_spec _ hL (by decide) (by rw[hfl,List.length_append];omega)) (fun F3 v hF3 hv=>?_)
 obtain⟨a',c',rfl,hc⟩:=hv
 rw[hfl] at hc ⊢
 refine zC7 ?_
 refine AW.ret ⟨_,[],⟨_,_,⟨_,rfl,fun G h0 s0=>loadA_cells (s0.has (p:=2) Z me) (readT_ok hT rfl)⟩,rfl,rfl⟩,zsb,rfl,_,rfl,a',_,c',?_,hc⟩
 rw[List.length_append,←hwl,←hul];rfl
structure CT where
 ci:Nat
 ra:Option Addr
 rm:Nat
 rc:Nat
 va:Option Addr
 vn:Nat
 vc:Nat
 ba:Option Addr
 bc:Nat
 BO:List (Nat×Blk)
 os:List Value
 RB:List (Nat×Blk)
 T:YTab
def rcCells(g:Gram)(m:Nat)(u:CT):List Value:=[.int .i64 g.terms,.int .i64 g.nons,.int .i64 g.start,.slice u.ra u.rm u.rc,.slice u.va u.vn u.vc,.int .i64 1,.int .i64 1,.int .i64 1,.slice u.ba m u.bc]
structure OkW(a:Way):Prop where
 cost:a.cost≤100
 len:a.w.length≤120
 low:Low a.w
structure TabY(F:Frz)(v:List Nat)(m:Nat)(u:CT):Prop where
 outer:Bld tRaw F u.ba m u.bc u.BO u.os
 rlen:u.RB.length=m*(v.length+1)
 row:∀n,n<m→∃a c vs,u.os[n]?=some (.slice a (v.length+1) c)∧Arr tRaw F a (v.length+1) c vs∧∀i,i≤v.length→∃id cs c',vs[i]?=some (.slice (some ⟨id,0,none⟩) (v.length+1) c')∧
  u.RB[n*(v.length+1)+i]?=some (id,.cells false cs)∧Vec tWay F (some ⟨id,0,none⟩) (v.length+1) c' [(id,.cells false cs)] ((List.range (v.length+1)).map (u.T n i))
 pat:Arr tNat F u.va u.vn u.vc v
 val:∀n i j a,u.T n i j=some a→i≤j∧j≤v.length∧OkW a
theorem TabY.mono{F G:Frz}{v:List Nat}{m:Nat}{u:CT}(h:TabY F v m u)(hF:Frz.le F G):TabY G v m u:=
 ⟨h.outer.mono hF,h.rlen,fun n hn=>by
  obtain⟨a,c,vs,h1,h2,h3⟩:=h.row n hn
  exact⟨a,c,vs,h1,h2.mono hF,fun i hi=>by obtain⟨id,cs,c',h4,h5,h6⟩:=h3 i hi;exact⟨id,cs,c',h4,h5,h6.mono hF⟩⟩,h.pat.mono hF,h.val⟩
theorem mapY_get{L j:Nat}{f:Nat→Option Way}(hj:j<L):((List.range L).map f)[j]?=some (f j):=by
 rw[List.getElem?_map,List.getElem?_range hj];rfl
theorem rone_spec(F:Frz)(g:Gram){v:List Nat}(hv:v.length≤12){u:CT}{m:Nat}(hp:Arr tNat F u.va u.vn u.vc v)(t i j:Nat)(hij:i≤j)(hj:j≤v.length) :
  Abs.Spec CC 89 [.pointer (some ⟨u.ci,0,none⟩),.int .i64 (t:Nat),.int .i64 (i:Nat),.int .i64 (j:Nat)] F [[(u.ci,.cells false (rcCells g m u))]] fun F' x o=>
   o=[[(u.ci,.cells false (rcCells g m u))]]∧∃l,x=.agg ⟨l⟩∧tWay.rel F' l (some ⟨oneC v t i j,[t]⟩):=by
 have hpl:=hp.len
 unfold rcCells
 refine Abs.Spec.fn (n:=72) Tryd.func89 rfl rfl fun own=>?_
 refine AW.seq (AW.reg ?_)
 refine WT.allocT hT Z Z Z Z Z Z (fun i8 hi8=>?_)
 refine zC7 ?_
 refine AW.draw (ps:=[(4,14),(4,16),(10,14),(10,16),(11,14),(11,16),(12,14),(12,16)]) Z Z ?_
 refine zC7 ?_
 refine WT.idxArr (j:=0) (s:=1) (len:=3) hT Z Z Z Z Z Z Z Z Z (by decide) ?_
 refine zC7 ?_
 refine WT.idxArr (j:=1) (s:=1) (len:=3) hT Z Z Z Z Z Z Z Z Z (by decide) ?_
 refine zC7 ?_
 refine WT.mulL 1 Z Z Z Z Z Z zo ?_
 refine zC7 ?_
 refine WT.know (v':=.int .i64 ((j-i+1:Nat):Int)) 26 Z (by congr 1;omega) ?_
 refine WT.buildT hT Z Z Z Z Z Z Z Z Z Z Z Z Z Z (fun i28 hi28=>?_)
 refine WT.freezeAll 0 Z Z (fun F2 hF2 hB2=>?_)
 have hL:Arr tNat F2 (some ⟨i28,0,none⟩) 1 1 [t]:=Bld.frozen (F:=F) (B:=[(i28,.cells false [.int .i64 (t:Nat)])]) ⟨rfl,.inr ⟨i28,_,rfl,rfl,rfl,Cells.single (R:=tNat) (x:=t) rfl,by decide⟩⟩ hF2 hB2
 have hp2:=hp.mono hF2
 refine zC7 ?_
 refine WT.allocT hT Z Z Z Z Z Z (fun i10 hi10=>?_)
 refine zC7 ?_
 refine⟨zrC,?_⟩
 refine zC7 ?_
 refine AW.jnT (S:=Unit) (fun _=>[]) (fun _=>[(i10,.cells false [.int .i64 ((if i<j then j-i else 1:Nat):Int),.int .i64 1,.slice (some ⟨i28,0,none⟩) 1 1,.bool true])]::[]::[(i8,.cells false [.int .i64 0,.int .i64 0,.slice none 0 0,.bool false])]::[(u.ci,.cells false [.int .i64 g.terms,.int .i64 g.nons,.int .i64 g.start,.slice u.ra u.rm u.rc,.slice u.va u.vn u.vc,.int .i64 1,.int .i64 1,.int .i64 1,.slice u.ba m u.bc])]::own) (fun _ _=>True) ?_ (fun _ F3 hF3 _=>?_)
 ·refine AW.cond Z (fun hc=>?_) (fun hc=>?_)
  ·have hc:i<j:=by simp at hc;omega
   rw[if_pos hc]
   refine zC7 ?_
   refine WT.idxArr (j:=2) (s:=1) (len:=3) hT Z Z Z Z Z Z Z Z Z (by decide) ?_
   refine zC7 ?_
   refine WT.idxArr (j:=1) (s:=1) (len:=3) hT Z Z Z Z Z Z Z Z Z (by decide) ?_
   refine zC7 ?_
   refine WT.mulL 1 Z Z Z Z Z Z zo ?_
   refine zC7 ?_
   refine WT.know (v':=.int .i64 ((j-i:Nat):Int)) 47 Z (by congr 1;omega) ?_
   refine WT.minT (x:=j-i+1) (y:=j-i) Z Z Z Z Z Z ?_
   refine WT.know (v':=.int .i64 ((j-i:Nat):Int)) 48 Z (by rw[show Nat.min (j-i+1) (j-i)=j-i from Nat.min_eq_right zo]) ?_
   refine zC7 ?_
   exact⟨(),sM,OwnLe.refl _,trivial⟩
  ·have hc:¬i<j:=by simp at hc;omega
   rw[if_neg hc]
   refine zC7 ?_
   refine⟨(),sM,?_,trivial⟩
   rw[show j-i+1=1 by omega]
   exact OwnLe.refl _
 have hp3:=hp2.mono hF3
 refine zC7 ?_
 obtain⟨a',c',hs,ha'⟩:=hp3.slice (C:=CC) (lo:=i) (hi:=j) hij zo hT (t:=22) Z Z Z (some (.int .i64 (i:Nat))) (some (.int .i64 (j:Nat))) rfl rfl
 refine WT.slice Z Z Z Z Z Z Z Z hs ?_
 have ha':Arr tNat F3 a' (j-i) c' (part v i j):=ha'
 refine zC7 ?_
 refine WT.callV Tryd.func97 Z Z Z Z Z Z (contains_spec _ ha' zo t) (fun x hx=>?_)
 subst hx
 refine zC7 ?_
 refine AW.cond Z (fun hc=>?_) (fun hc=>?_)
 ·have hc:t∈part v i j:=by simpa using hc
  have hlt:i<j:=by
   have:=List.length_pos_of_mem hc
   rw[part_len hj] at this;omega
  have e:oneC v t i j=j-i-1:=if_pos hc
  rw[if_pos hlt]
  refine zC7 ?_
  refine WT.idxArr (j:=1) (s:=1) (len:=3) hT Z Z Z Z Z Z Z Z Z (by decide) ?_
  refine zC7 ?_
  refine WT.mulL 1 Z Z Z Z Z Z zo ?_
  skip
  refine WT.know (v':=.int .i64 ((j-i-1:Nat):Int)) 68 Z (by congr 1;omega) ?_
  refine WT.minT (x:=j-i) (y:=j-i-1) Z Z Z Z Z Z ?_
  refine WT.know (v':=.int .i64 ((j-i-1:Nat):Int)) 69 Z (by rw[show Nat.min (j-i) (j-i-1)=j-i-1 from Nat.min_eq_right zo]) ?_
  refine zC7 ?_
  exact AW.ret ⟨_,[_],⟨_,_,⟨_,rfl,fun G h0 s0=>loadA_cells (s0.has (p:=2) rfl me) (readT_ok hT rfl)⟩,rfl,rfl⟩,zsb,rfl,_,rfl,_,1,_,by rw[e];rfl,hL.mono hF3⟩
 ·have hc:t∉part v i j:=by simpa using hc
  have e:oneC v t i j=if i<j then j-i else 1:=if_neg hc
  refine zC7 ?_
  exact AW.ret ⟨_,[_],⟨_,_,⟨_,rfl,fun G h0 s0=>loadA_cells (s0.has (p:=2) rfl me) (readT_ok hT rfl)⟩,rfl,rfl⟩,zsb,rfl,_,rfl,_,1,_,by rw[e];rfl,hL.mono hF3⟩
theorem rsymbol_spec(F:Frz)(g:Gram)(hgn:g.nons≤1000){v:List Nat}(hv:v.length≤12){u:CT}(h:TabY F v g.nons u)(s:Sym)(hs:s.term=false→s.n<g.nons)(i j:Nat)(hij:i≤j)(hj:j≤v.length) :
  Abs.Spec CC 63 [.pointer (some ⟨u.ci,0,none⟩),.agg ⟨[.bool s.term,.int .i64 s.n]⟩,.int .i64 (i:Nat),.int .i64 (j:Nat)] F [[(u.ci,.cells false (rcCells g g.nons u))],u.BO,u.RB] fun F' x o=>
   o=[[(u.ci,.cells false (rcCells g g.nons u))],u.BO,u.RB]∧∃l,x=.agg ⟨l⟩∧tWay.rel F' l (symY v u.T s i j):=by
 have hol:=h.outer.len
 have hpl:=h.pat.len
 refine Abs.Spec.fn (n:=31) Tryd.func63 rfl rfl fun own=>?_
 refine AW.seq (AW.reg ?_)
 refine WT.boxT Z Z Z Z Z Z (fun i5 hi5=>?_)
 refine WT.allocT hT Z Z Z Z Z Z (fun i8 hi8=>?_)
 unfold rcCells
 refine zC7 ?_
 refine AW.cond Z (fun hc=>?_) (fun hc=>?_)
 ·have hc:s.term=true:=hc
  have e:symY v u.T s i j=some ⟨oneC v s.n i j,[s.n]⟩:=by rw[symY,if_pos hc]
  rw[e]
  refine zC7 ?_
  refine WT.call1F 2 Tryd.func89 Z Z Z Z Z Z Z (fun _=>rfl) (P:=fun F' x B'=>B'=[(u.ci,.cells false (rcCells g g.nons u))]∧∃l,x=.agg ⟨l⟩∧tWay.rel F' l (some ⟨oneC v s.n i j,[s.n]⟩)) (Spec.mono (rone_spec F g hv h.pat s.n i j hij hj) (fun F' x o _ ⟨h1,h2⟩=>⟨_,h1,rfl,h2⟩)) (fun F2 x B2 hF2 hx=>?_)
  obtain⟨rfl,l,rfl,hl⟩:=hx
  obtain⟨p,n,c,rfl,hp⟩:=hl
  refine zC7 ?_
  exact AW.ret ⟨_,[_,_,_],⟨_,_,⟨_,rfl,fun G h0 s0=>loadA_cells (s0.has (p:=0) rfl me) (readT_ok hT rfl)⟩,rfl,rfl⟩,zsb,rfl,_,rfl,p,n,c,rfl,hp⟩
 ·have hc:s.term=false:=hc
  have hsn:=hs hc
  obtain⟨a,c,vs,h1,h2,h3⟩:=h.row s.n hsn
  obtain⟨id,cs,c',h4,h5,h6⟩:=h3 i zo
  have h2l:=h2.len
  refine zC7 ?_
  refine WT.vidx hT h.outer.vec Z Z Z Z Z Z Z Z Z zo (fun b1 hb1=>?_)
  refine WT.vld1 (v:=.slice a (v.length+1) c) hT 3 h.outer.vec hb1 h1 Z Z Z Z Z Z Z Z Z (fun l h=>h.1) ?_
  refine zC7 ?_
  refine WT.idxL hT h2 Z Z Z Z Z Z Z Z Z zo (fun z hz b3 off3 ro3 cs3 lx3 hb3 hp3 hrel3=>?_)
  obtain rfl:z=.slice (some ⟨id,0,none⟩) (v.length+1) c':=by rw[h4] at hz;exact(Option.some.inj hz).symm
  obtain⟨rfl,_⟩:=hrel3
  refine zC7 ?_
  refine WT.vidx hT h6 Z Z Z Z Z Z Z Z Z zo (fun b5 hb5=>?_)
  refine WT.wldS hT 4 h6 hb5 (mapY_get zo) Z Z Z Z Z Z (fun z hz=>by rw[List.mem_singleton.1 hz];exact gM h5) Z Z Z (fun l hl=>?_)
  have e:symY v u.T s i j=u.T s.n i j:=by rw[symY,if_neg (by simp[hc])]
  rw[e]
  cases hx:u.T s.n i j with
  | none=>
   rw[hx] at hl
   obtain rfl:l=[.int .i64 0,.int .i64 0,.slice none 0 0,.bool false]:=hl
   refine zC7 ?_
   exact AW.ret ⟨_,[_,_,_],⟨_,_,⟨_,rfl,fun G h0 s0=>loadA_cells (s0.has (p:=0) rfl me) (readT_ok hT rfl)⟩,rfl,rfl⟩,zsb,rfl,_,rfl,rfl⟩
  | some w=>
   rw[hx] at hl
   obtain⟨wa,wn,wc,rfl,hw⟩:=hl
   refine zC7 ?_
   exact AW.ret ⟨_,[_,_,_],⟨_,_,⟨_,rfl,fun G h0 s0=>loadA_cells (s0.has (p:=0) rfl me) (readT_ok hT rfl)⟩,rfl,rfl⟩,zsb,rfl,_,rfl,wa,wn,wc,rfl,hw⟩
structure RowY(N:Nat)(D:Nat→Way→Prop)(xs:List (Option Way)):Prop where
 len:xs.length=N+1
 no:∀q,q≤N→xs[q]?=some none→∀a,¬D q a
 yes:∀q b,xs[q]?=some (some b)→D q b∧∀a,D q a→b.le a
theorem RowY.congr{N:Nat}{D D':Nat→Way→Prop}{xs:List (Option Way)}(h:RowY N D xs)(e:∀q,q≤N→∀a,D q a↔D' q a):RowY N D' xs:=
 ⟨h.len,fun q hq hx a ha=>h.no q hq hx a ((e q hq a).2 ha),fun q b hb=>by
  have hq:=(gS hb).1
  rw[h.len] at hq
  obtain⟨h1,h2⟩:=h.yes q b hb
  exact⟨(e q zo b).1 h1,fun a ha=>h2 a ((e q zo a).2 ha)⟩⟩
theorem rowY_none(N:Nat){D:Nat→Way→Prop}(h:∀q a,¬D q a):RowY N D (List.replicate (N+1) none):=
 ⟨by simp,fun q _ _=>h q,fun q b hb=>by rw[List.getElem?_replicate] at hb;split at hb<;>cases hb⟩
theorem RowY.put{N:Nat}{D:Nat→Way→Prop}{xs:List (Option Way)}(h:RowY N D xs){q:Nat}(hq:q≤N){A:Way→Prop}{a0:Way}(hA:A a0)(hm:∀a,A a→a0.le a)(hb:∀a,D q a→a0.le a):RowY N (fun x a=>D x a∨(x=q∧A a)) (xs.set q (some a0)):=by
 have hl:=h.len
 refine⟨by simp[hl],fun x hx hn a=>?_,fun x b hx=>?_⟩
 ·by_cases e:x=q
  ·subst e;rw[List.getElem?_set_self zo] at hn;cases hn
  ·rw[List.getElem?_set_ne (fun e2=>e e2.symm)] at hn
   rintro(h1 | ⟨h1,_⟩)
   ·exact h.no x hx hn a h1
   ·exact e h1
 ·by_cases e:x=q
  ·subst e
   rw[List.getElem?_set_self zo] at hx
   obtain rfl:=Option.some.inj (Option.some.inj hx)
   exact⟨.inr ⟨rfl,hA⟩,fun a ha=>by
    rcases ha with ha | ⟨_,ha⟩
    ·exact hb a ha
    ·exact hm a ha⟩
  ·rw[List.getElem?_set_ne (fun e2=>e e2.symm)] at hx
   obtain⟨h1,h2⟩:=h.yes x b hx
   exact⟨.inl h1,fun a ha=>by
    rcases ha with ha | ⟨ha,_⟩
    ·exact h2 a ha
    ·exact absurd ha e⟩
theorem RowY.add{N:Nat}{D:Nat→Way→Prop}{xs:List (Option Way)}(h:RowY N D xs){q:Nat}(hq:q≤N){A:Way→Prop}{a0:Way}(hA:A a0)(hm:∀a,A a→a0.le a){z:Option Way}(hz:xs[q]?=some z)(ha:Low a0.w)(hb:∀b,z=some b→Low b.w)
  (hl:lessY (some a0) z=true):RowY N (fun x a=>D x a∨(x=q∧A a)) (xs.set q (some a0)):=by
 refine h.put hq hA hm fun a hd=>?_
 cases z with
 | none=>exact absurd hd (h.no q hq hz a)
 | some b=>
  have h1:=(cmpWay_lt ha (hb b rfl)).1 (of_decide_eq_true hl)
  exact Way.le_trans (Way.le_of_not h1) ((h.yes q b hz).2 a hd)
theorem RowY.keep{N:Nat}{D:Nat→Way→Prop}{xs:List (Option Way)}(h:RowY N D xs){q:Nat}{A:Way→Prop}{a0 b:Way}(hm:∀a,A a→a0.le a)(hz:xs[q]?=some (some b))(hl:b.le a0):RowY N (fun x a=>D x a∨(x=q∧A a)) xs:=by
 refine⟨h.len,fun x hx hn a=>?_,fun x c hx=>?_⟩
 ·rintro(h1 | ⟨rfl,_⟩)
  ·exact h.no x hx hn a h1
  ·rw[hz] at hn;cases hn
 ·obtain⟨h1,h2⟩:=h.yes x c hx
  refine⟨.inl h1,fun a ha=>?_⟩
  rcases ha with ha | ⟨rfl,ha⟩
  ·exact h2 a ha
  ·rw[hz] at hx
   obtain rfl:=Option.some.inj (Option.some.inj hx)
   exact Way.le_trans hl (hm a ha)
theorem lessY_keep{a b:Way}(ha:Low a.w)(hb:Low b.w)(h:lessY (some a) (some b)=false):b.le a:=by
 have h1:¬cmpWay a b<0:=of_decide_eq_false h
 rw[cmpWay_lt ha hb] at h1
 exact Classical.byContradiction h1
theorem symY_ok{F:Frz}{v:List Nat}{m:Nat}{u:CT}(h:TabY F v m u)(hv:v.length≤12){s:Sym}(hs:s.term=true→s.n<4){i j:Nat}{a:Way}(hij:i≤j)(hj:j≤v.length)(ha:symY v u.T s i j=some a):OkW a:=by
 unfold symY at ha
 by_cases ht:s.term=true
 ·rw[if_pos ht] at ha
  cases ha
  have h1:=(Ed.one (t:=s.n) hj (j-i) i zo).bnd
  have h2:oneC v s.n i j≤12:=by
   unfold oneC;split
   ·omega
   ·split<;>omega
  exact⟨by show oneC v s.n i j≤100;omega,by simp,fun t h=>by simp at h;rw[h];exact hs ht⟩
 ·rw[if_neg ht] at ha
  exact(h.val _ _ _ _ ha).2.2
theorem chW_ok{F:Frz}{v:List Nat}{m:Nat}{u:CT}(h:TabY F v m u)(hv:v.length≤12):∀{l:List Sym},(∀s∈l,s.term=true→s.n<4)→∀{i j:Nat} {a:Way},j≤v.length→ChW (symY v u.T) l i j a→a.cost≤100*l.length∧a.w.length≤120*l.length∧Low a.w
 | [],_,i,j,a,hj,⟨_,h2⟩=>by subst h2;exact⟨by simp,by simp,fun t h=>by cases h⟩
 | s::l,hs,i,j,a,hj,⟨m,b,c,h1,h2,h3,h4,h5⟩=>by
  subst h5
  have h6:=symY_ok h hv (hs s me) h1 zo h3
  obtain⟨h7,h8,h9⟩:=chW_ok h hv (fun x hx=>hs x (List.mem_cons_of_mem _ hx)) hj h4
  have h10:=h6.cost
  have h11:=h6.len
  refine⟨by simp only[Way.app,List.length_cons];omega,by simp only[Way.app,List.length_cons,List.length_append];omega,fun t ht=>?_⟩
  rcases List.mem_append.1 ht with ht | ht
  ·exact h6.low t ht
  ·exact h9 t ht
structure AtY where
 a:Option Addr
 c:Nat
 B:List (Nat×Blk)
 xs:List (Option Way)
structure NkY where
 k:Nat
 B:List (Nat×Blk)
 xs:List (Option Way)
theorem rrule_spec(F:Frz)(g:Gram)(hgn:g.nons≤1000){v:List Nat}(hv:v.length≤12){u:CT}(h:TabY F v g.nons u){r:Rule}{b:Option Addr}{n d:Nat}(hb:Arr tSym F b n d r.right)(hn:n≤4)
  (hs:∀s∈r.right,(s.term=false→s.n<g.nons)∧(s.term=true→s.n<4)) (i:Nat) (hi:i≤v.length) :
  Abs.Spec CC 24 [.pointer (some ⟨u.ci,0,none⟩),.agg ⟨[.int .i64 r.left,.slice b n d]⟩,.int .i64 (i:Nat)] F [[(u.ci,.cells false (rcCells g g.nons u))],u.BO,u.RB] fun F' x o=>
   ∃s:AtY,o=[[(u.ci,.cells false (rcCells g g.nons u))],u.BO,u.RB,s.B]∧x=.slice s.a (v.length+1) s.c∧Vec tWay F' s.a (v.length+1) s.c s.B s.xs∧RowY v.length (RuleD (symY v u.T) r.right i) s.xs:=by
 have hpl:=h.pat.len
 have hbl:=hb.len
 unfold rcCells
 refine Abs.Spec.fn (n:=115) Tryd.func24 rfl rfl fun own=>?_
 refine AW.seq (AW.reg ?_)
 refine WT.boxT Z Z Z Z Z Z (fun i4 hi4=>?_)
 refine zC7 ?_
 refine WT.know (v':=.int .i64 ((v.length+1:Nat):Int)) 23 Z (by rw[hpl]) ?_
 refine WT.makeS (l:=v.length+1) (by_:=48) hT Z Z Z Z Z Z Z Z Z Z Z Z ⟨by omega,by omega,by decide⟩ (fun i23 hi23=>?_)
 have hv0:=vec_made (R:=tWay) (zs:=[.int .i64 0,.int .i64 0,.slice none 0 0,.bool false]) (x:=none) (fun F=>rfl) (by decide) (F:=F) (i:=i23) (l:=v.length+1)
 refine zC7 ?_
 refine AW.cond Z (fun hc=>?_) (fun hc=>?_)
 ·have hnil:r.right=[]:=List.eq_nil_of_length_eq_zero (by simp at hc;omega)
  refine zC7 ?_
  refine AW.le (own_rule1 _ _ _ _ _ _) ?_
  refine AW.block ?_
  refine AW.loopR (S:=NkY) (fun t=>[(9,.int .i64 (t.k:Nat))]) (fun t=>[(u.ci,.cells false [.int .i64 g.terms,.int .i64 g.nons,.int .i64 g.start,.slice u.ra u.rm u.rc,.slice u.va u.vn u.vc,.int .i64 1,.int .i64 1,.int .i64 1,.slice u.ba g.nons u.bc])]::u.BO::u.RB::t.B::[(i4,.cells false [.int .i64 r.left,.slice b n d])]::own)
   (fun t G=>Vec tWay G (some ⟨i23,0,none⟩) (v.length+1) (bif v.length+1==0 then 0 else tWay.size) t.B t.xs∧i≤t.k∧t.k≤v.length+1∧RowY v.length (fun x a=>i≤x∧x<t.k∧a=⟨x-i,[]⟩) t.xs)
   (fun t=>v.length+1-t.k) ⟨i,_,_⟩ sM oR ⟨hv0,Nat.le_refl _,by dsimp only;omega,rowY_none _ (fun x a h=>by dsimp only at h;omega)⟩ ?_
  intro t F2 hF2 hP2
  obtain⟨ht,hik,hkn,htr⟩:=hP2
  refine zC7 ?_
  refine AW.cond Z (fun hd=>?_) (fun hd=>?_)
  ·have hkv:t.k≤v.length:=by simp at hd;omega
   obtain⟨z0,hz0⟩:∃x,t.xs[t.k]?=some x:=⟨_,gE (by rw[htr.len];omega)⟩
   refine zC7 ?_
   refine AW.block ?_
   refine zC7 ?_
   refine WT.idxArr (j:=1) (s:=1) (len:=3) hT Z Z Z Z Z Z Z Z Z (by decide) ?_
   refine zC7 ?_
   refine WT.mulL 1 Z Z Z Z Z Z zo ?_
   refine WT.know (v':=.int .i64 ((t.k-i:Nat):Int)) 45 Z (by congr 1;omega) ?_
   refine zC7 ?_
   refine WT.vidx hT ht Z Z Z Z Z Z Z Z Z zo (fun b2 hb2=>?_)
   refine WT.vst (y:=some ⟨t.k-i,[]⟩) hT 3 ht hb2 hz0 Z Z Z Z Z ⟨none,0,0,rfl,Arr.nil_ _ _⟩ Z (fun _=>rfl) Z (fun B2 hB2=>?_)
   refine zC7 ?_
   refine⟨⟨t.k+1,B2,t.xs.set t.k (some ⟨t.k-i,[]⟩)⟩,by dsimp only;omega,sM,zow,hB2,by dsimp only;omega,by dsimp only;omega,?_⟩
   exact(htr.put hkv (A:=fun a=>a=⟨t.k-i,[]⟩) (a0:=⟨t.k-i,[]⟩) rfl (fun a ha=>by rw[ha];exact Way.le_refl _) (fun a h=>by omega)).congr fun x hx a=>by
    constructor
    ·rintro(⟨h1,h2,h3⟩ | ⟨rfl,h2⟩)
     ·exact⟨h1,by dsimp only;omega,h3⟩
     ·exact⟨hik,by dsimp only;omega,h2⟩
    ·rintro⟨h1,h2,h3⟩
     dsimp only at h2
     by_cases e:x=t.k
     ·exact .inr ⟨e,by rw[←e];exact h3⟩
     ·exact .inl ⟨h1,by omega,h3⟩
  ·have hkv:t.k=v.length+1:=by simp at hd;omega
   skip
   refine AW.exit ?_
   refine zC7 ?_
   refine AW.ret ⟨_,[_,_,_,_],⟨_,_,rfl,rfl,rfl⟩,List.Sublist.cons_cons _ (List.Sublist.cons_cons _ (List.Sublist.cons_cons _ (List.Sublist.cons_cons _ (List.sublist_cons_self _ _)))),⟨_,_,t.B,t.xs⟩,rfl,rfl,ht,htr.congr fun q hq a=>?_⟩
   unfold RuleD
   rw[if_pos hnil]
   exact⟨fun ⟨h1,_,h3⟩=>⟨h1,h3⟩,fun ⟨h1,h3⟩=>⟨h1,by omega,h3⟩⟩
 ·have hnn:r.right≠[]:=by rintro e;rw[e] at hbl;simp at hc hbl;omega
  refine zC7 ?_
  refine WT.vidx hT hv0 Z Z Z Z Z Z Z Z Z zo (fun b1 hb1=>?_)
  refine WT.vst (y:=some ⟨0,[]⟩) hT 0 hv0 hb1 (z:=none) (by rw[List.getElem?_replicate,if_pos zo]) Z Z Z Z Z ⟨none,0,0,rfl,Arr.nil_ _ _⟩ Z (fun _=>rfl) Z (fun B1 hB1=>?_)
  have hrow0:RowY v.length (ChW (symY v u.T) (r.right.take 0) i) ((List.replicate (v.length+1) none).set i (some ⟨0,[]⟩)):=by
   have:=(rowY_none v.length (D:=fun _ _=>False) (fun _ _ h=>h)).put hi (A:=fun a=>a=⟨0,[]⟩) (a0:=⟨0,[]⟩) rfl (fun a ha=>by rw[ha];exact Way.le_refl _) (fun a h=>h.elim)
   exact this.congr fun q hq a=>by simp[ChW,eq_comm]
  refine zC7 ?_
  refine AW.le (own_rule1 _ _ _ _ _ _) ?_
  refine AW.range (S:=AtY) (fun s=>[(8,.slice s.a (v.length+1) s.c)]) (fun s=>[(u.ci,.cells false [.int .i64 g.terms,.int .i64 g.nons,.int .i64 g.start,.slice u.ra u.rm u.rc,.slice u.va u.vn u.vc,.int .i64 1,.int .i64 1,.int .i64 1,.slice u.ba g.nons u.bc])]::u.BO::u.RB::s.B::[(i4,.cells false [.int .i64 r.left,.slice b n d])]::own)
   (fun q s G=>Vec tWay G s.a (v.length+1) s.c s.B s.xs∧RowY v.length (ChW (symY v u.T) (r.right.take q) i) s.xs) n ⟨_,_,B1,_⟩
   Z Z Z Z Z Z Z Z Z zo rfl rfl (fun _=>rfl) (fun _=>rfl) sM oR ⟨hB1,hrow0⟩ ?_ ?_
  ·intro q s F1 hF1 hq hP
   obtain⟨hsv,hsr⟩:=hP
   have hb1:=hb.mono hF1
   refine zC7 ?_
   refine WT.idxL hT hb1 Z Z Z Z Z Z Z Z Z zo (fun y hyq b2 off2 ro2 cs2 lx2 hb2 hp2 hrel2=>?_)
   obtain rfl:lx2=_:=hrel2
   have htk:r.right.take (q+1)=r.right.take q++[y]:=by rw[List.take_add_one,hyq];rfl
   have hys:=hs y (gM hyq)
   have hlen:(r.right.take q).length=q:=by rw[List.length_take];omega
   have hok:∀{m:Nat} {a:Way},m≤v.length→ChW (symY v u.T) (r.right.take q) i m a→a.cost≤400∧a.w.length≤480∧Low a.w:=fun {m a} hm ha=>by
    have h1:=chW_ok h hv (fun s hs2=>(hs s (List.mem_of_mem_take hs2)).2) hm ha
    rw[hlen] at h1
    exact⟨by omega,by omega,h1.2.2⟩
   refine zC7 ?_
   refine WT.allocT hT Z Z Z Z Z Z (fun i10 hi10=>?_)
   refine zC7 ?_
   refine WT.know (v':=.int .i64 ((v.length+1:Nat):Int)) 61 Z (by rw[hpl]) ?_
   refine WT.makeS (l:=v.length+1) (by_:=48) hT Z Z Z Z Z Z Z Z Z Z Z Z ⟨by omega,by omega,by decide⟩ (fun i37 hi37=>?_)
   have hv1:=vec_made (R:=tWay) (zs:=[.int .i64 0,.int .i64 0,.slice none 0 0,.bool false]) (x:=none) (fun F=>rfl) (by decide) (F:=F1) (i:=i37) (l:=v.length+1)
   refine zC7 ?_
   refine AW.le (own_rule1 _ _ _ _ _ _) ?_
   refine AW.block ?_
   refine AW.loopR (S:=NkY) (fun t=>[(13,.int .i64 (t.k:Nat))]) (fun t=>[(u.ci,.cells false [.int .i64 g.terms,.int .i64 g.nons,.int .i64 g.start,.slice u.ra u.rm u.rc,.slice u.va u.vn u.vc,.int .i64 1,.int .i64 1,.int .i64 1,.slice u.ba g.nons u.bc])]::u.BO::u.RB::t.B::[(i10,.cells false [.bool y.term,.int .i64 y.n])]::s.B::[(i4,.cells false [.int .i64 r.left,.slice b n d])]::own)
    (fun t G=>Vec tWay G (some ⟨i37,0,none⟩) (v.length+1) (bif v.length+1==0 then 0 else tWay.size) t.B t.xs∧i≤t.k∧t.k≤v.length+1∧RowY v.length (fun x a=>∃m b c,i≤m∧m≤x∧m<t.k∧ChW (symY v u.T) (r.right.take q) i m b∧symY v u.T y m x=some c∧a=b.app c) t.xs)
    (fun t=>v.length+1-t.k) ⟨i,_,_⟩ sM oR ⟨hv1,Nat.le_refl _,by dsimp only;omega,rowY_none _ (fun x a ⟨m,b,c,h1,h2,h3,_⟩=>by dsimp only at h3;omega)⟩ ?_
   intro t F2 hF2 hP2
   obtain⟨ht,hik,hkn,htr⟩:=hP2
   have hsv2:=hsv.mono hF2
   refine zC7 ?_
   refine AW.cond Z (fun hd=>?_) (fun hd=>?_)
   ·have hkv:t.k≤v.length:=by simp at hd;omega
    obtain⟨x0,hx0⟩:∃x,s.xs[t.k]?=some x:=⟨_,gE (by rw[hsr.len];omega)⟩
    refine zC7 ?_
    refine AW.block ?_
    refine zC7 ?_
    refine WT.vidx hT hsv2 Z Z Z Z Z Z Z Z Z zo (fun b3 hb3=>?_)
    refine zC7 ?_
    cases x0 with
    | none=>
     have hno:=hsr.no t.k hkv hx0
     refine WT.vfld (v:=.bool false) (fo:=3) hT 5 hsv2 hb3 hx0 Z Z Z Z Z Z (fun z hz=>hz) Z Z (by decide) (fun l hl=>by rw[show l=_ from hl];rfl) ?_
     refine zC7 ?_
     refine AW.cond Z (fun _=>?_) (fun h=>(by cases h))
     refine AW.exit ?_
     refine zC7 ?_
     refine⟨⟨t.k+1,t.B,t.xs⟩,by dsimp only;omega,sM,zow,ht,by dsimp only;omega,by dsimp only;omega,htr.congr fun x hx a=>?_⟩
     constructor
     ·rintro⟨m,b,c,h1,h2,h3,h4⟩
      exact⟨m,b,c,h1,h2,by dsimp only;omega,h4⟩
     ·rintro⟨m,b,c,h1,h2,h3,h4,h5⟩
      dsimp only at h3
      by_cases e:m=t.k
      ·subst e;exact absurd h4 (hno b)
      ·exact⟨m,b,c,h1,h2,by omega,h4,h5⟩
    | some x0=>
     obtain⟨hxd,hxm⟩:=hsr.yes t.k x0 hx0
     obtain⟨hxc,hxl,hxw⟩:=hok hkv hxd
     refine WT.vfld (v:=.bool true) (fo:=3) hT 5 hsv2 hb3 hx0 Z Z Z Z Z Z (fun z hz=>hz) Z Z (by decide) (fun l hl=>by obtain⟨a,n,c,rfl,_⟩:=hl;rfl) ?_
     refine zC7 ?_
     refine AW.cond Z (fun h=>(by cases h)) (fun _=>?_)
     refine zC7 ?_
     refine AW.block ?_
     refine AW.loopR (S:=NkY) (fun w=>[(14,.int .i64 (w.k:Nat))]) (fun w=>[(u.ci,.cells false [.int .i64 g.terms,.int .i64 g.nons,.int .i64 g.start,.slice u.ra u.rm u.rc,.slice u.va u.vn u.vc,.int .i64 1,.int .i64 1,.int .i64 1,.slice u.ba g.nons u.bc])]::u.BO::u.RB::w.B::[(i10,.cells false [.bool y.term,.int .i64 y.n])]::s.B::[(i4,.cells false [.int .i64 r.left,.slice b n d])]::own)
      (fun w G=>Vec tWay G (some ⟨i37,0,none⟩) (v.length+1) (bif v.length+1==0 then 0 else tWay.size) w.B w.xs∧t.k≤w.k∧w.k≤v.length+1∧RowY v.length (fun x a=>(∃m b c,i≤m∧m≤x∧m<t.k∧ChW (symY v u.T) (r.right.take q) i m b∧symY v u.T y m x=some c∧a=b.app c)∨(t.k≤x∧x<w.k∧∃b c,ChW (symY v u.T) (r.right.take q) i t.k b∧symY v u.T y t.k x=some c∧a=b.app c)) w.xs)
      (fun w=>v.length+1-w.k) ⟨t.k,t.B,t.xs⟩ sM oR ⟨ht,Nat.le_refl _,hkn,htr.congr fun x hx a=>⟨.inl,fun h=>by
       rcases h with h | ⟨h1,h2,_⟩
       ·exact h
       ·dsimp only at h2;omega⟩⟩ ?_
     intro w F3 hF3 hP3
     obtain⟨hw,hkj,hjn,hwr⟩:=hP3
     have hsv3:=hsv2.mono hF3
     refine zC7 ?_
     refine AW.cond Z (fun hd=>?_) (fun hd=>?_)
     ·have hjv:w.k≤v.length:=by simp at hd;omega
      obtain⟨z0,hz0⟩:∃x,w.xs[w.k]?=some x:=⟨_,gE (by rw[hwr.len];omega)⟩
      have hzok:∀b,z0=some b→Low b.w∧b.w.length≤1000:=fun b e=>by
       subst e
       obtain⟨hd1,_⟩:=hwr.yes w.k b hz0
       have hsum:∀{m:Nat} {a c:Way},m≤w.k→i≤m→ChW (symY v u.T) (r.right.take q) i m a→symY v u.T y m w.k=some c→b=a.app c→Low b.w∧b.w.length≤1000:=fun {m a c} hm _ h1 h2 h3=>by
        obtain⟨_,h4,h5⟩:=hok zo h1
        have h6:=symY_ok h hv hys.2 hm hjv h2
        have h7:=h6.len
        rw[h3]
        refine⟨fun t ht=>?_,by simp only[Way.app,List.length_append];omega⟩
        rcases List.mem_append.1 ht with ht | ht
        ·exact h5 t ht
        ·exact h6.low t ht
       rcases hd1 with ⟨m,a,c,h1,h2,h3,h4,h5,h6⟩ | ⟨h1,h2,a,c,h4,h5,h6⟩
       ·exact hsum h2 h1 h4 h5 h6
       ·exact hsum h1 hik h4 h5 h6
      refine zC7 ?_
      refine AW.block ?_
      refine zC7 ?_
      refine WT.callF (oin:=[[(u.ci,.cells false (rcCells g g.nons u))],u.BO,u.RB]) Tryd.func63 Z Z Z Z Z Z (rsymbol_spec F3 g hgn hv (h.mono (hF1.trans (hF2.trans hF3))) y hys.1 t.k w.k hkj hjv) (List.Perm.refl _) (fun F4 z oo hF4 hz=>?_)
      obtain⟨rfl,l,rfl,hl⟩:=hz
      have hw4:=hw.mono hF4
      have hsv4:=hsv3.mono hF4
      have more:∀N,RowY v.length (fun x a=>((∃m b c,i≤m∧m≤x∧m<t.k∧ChW (symY v u.T) (r.right.take q) i m b∧symY v u.T y m x=some c∧a=b.app c)∨(t.k≤x∧x<w.k∧∃b c,ChW (symY v u.T) (r.right.take q) i t.k b∧symY v u.T y t.k x=some c∧a=b.app c))∨(x=w.k∧∃b c,ChW (symY v u.T) (r.right.take q) i t.k b∧symY v u.T y t.k w.k=some c∧a=b.app c)) N→
        RowY v.length (fun x a=>(∃m b c,i≤m∧m≤x∧m<t.k∧ChW (symY v u.T) (r.right.take q) i m b∧symY v u.T y m x=some c∧a=b.app c)∨(t.k≤x∧x<w.k+1∧∃b c,ChW (symY v u.T) (r.right.take q) i t.k b∧symY v u.T y t.k x=some c∧a=b.app c)) N:=fun N hN=>hN.congr fun x hx a=>by
       constructor
       ·rintro((h1 | ⟨h1,h2,h3⟩) | ⟨rfl,h3⟩)
        ·exact .inl h1
        ·exact .inr ⟨h1,by omega,h3⟩
        ·exact .inr ⟨hkj,by omega,h3⟩
       ·rintro(h1 | ⟨h1,h2,h3⟩)
        ·exact .inl (.inl h1)
        ·by_cases e:x=w.k
         ·subst e;exact .inr ⟨rfl,h3⟩
         ·exact .inl (.inr ⟨h1,by omega,h3⟩)
      cases hx:symY v u.T y t.k w.k with
      | none=>
       rw[hx] at hl
       have hl0:l=[.int .i64 0,.int .i64 0,.slice none 0 0,.bool false]:=hl
       subst hl0
       skip
       refine WT.allocT hT Z Z Z Z Z Z (fun i15 hi15=>?_)
       refine zC7 ?_
       refine WT.vidx hT hsv4 Z Z Z Z Z Z Z Z Z zo (fun b5 hb5=>?_)
       refine WT.wldS hT 6 hsv4 hb5 hx0 Z Z Z Z Z Z (fun z hz=>hz) Z Z Z (fun la hla=>?_)
       refine zC7 ?_
       refine WT.vidx hT hw4 Z Z Z Z Z Z Z Z Z zo (fun b6 hb6=>?_)
       refine WT.wldS hT 4 hw4 hb6 hz0 Z Z Z Z Z Z (fun z hz=>hz) Z Z Z (fun lz hlz=>?_)
       refine WT.callV Tryd.func64 Z Z Z Z Z Z (hope_none F4 (y:=none) hla hl hlz rfl) (fun x hx=>?_)
       subst hx
       refine zC7 ?_
       refine AW.cond Z (fun _=>?_) (fun h=>(by cases h))
       refine AW.exit ?_
       refine zC7 ?_
       refine⟨⟨w.k+1,w.B,w.xs⟩,by dsimp only;omega,sM,zow,hw4,by dsimp only;omega,by dsimp only;omega,more _ (hwr.congr fun x hx2 a=>⟨.inl,fun h=>?_⟩)⟩
       rcases h with h | ⟨_,b,c,_,h2,_⟩
       ·exact h
       ·rw[hx] at h2;cases h2
      | some c0=>
       have hcok:=symY_ok h hv hys.2 hkj hjv hx
       have hc1:=hcok.cost
       have hc2:=hcok.len
       rw[hx] at hl
       obtain⟨za,zn,zc,rfl,hz⟩:=hl
       have hA:∃b c,ChW (symY v u.T) (r.right.take q) i t.k b∧symY v u.T y t.k w.k=some c∧x0.app c0=b.app c:=⟨x0,c0,hxd,hx,rfl⟩
       have hmin:∀a,(∃b c,ChW (symY v u.T) (r.right.take q) i t.k b∧symY v u.T y t.k w.k=some c∧a=b.app c)→(x0.app c0).le a:=by
        rintro a ⟨b,c,h1,h2,rfl⟩
        rw[hx] at h2
        obtain rfl:=Option.some.inj h2
        exact Way.app_mono (hxm b h1) (Way.le_refl _)
       have hlow:Low (x0.app c0).w:=fun t ht=>by
        rcases List.mem_append.1 ht with ht | ht
        ·exact hxw t ht
        ·exact hcok.low t ht
       have hall:(x0.app c0).w.length≤1000:=by simp only[Way.app,List.length_append];omega
       skip
       refine WT.allocT hT Z Z Z Z Z Z (fun i15 hi15=>?_)
       refine zC7 ?_
       refine WT.vidx hT hsv4 Z Z Z Z Z Z Z Z Z zo (fun b5 hb5=>?_)
       refine WT.wldS hT 6 hsv4 hb5 hx0 Z Z Z Z Z Z (fun z hz=>hz) Z Z Z (fun la hla=>?_)
       refine zC7 ?_
       refine WT.vidx hT hw4 Z Z Z Z Z Z Z Z Z zo (fun b6 hb6=>?_)
       refine WT.wldS hT 4 hw4 hb6 hz0 Z Z Z Z Z Z (fun z hz=>hz) Z Z Z (fun lz hlz=>?_)
       refine WT.callV Tryd.func64 Z Z Z Z Z Z (hope_some F4 hla (b:=c0) ⟨za,zn,zc,rfl,hz⟩ hlz zo) (fun x hx=>?_)
       subst hx
       refine zC7 ?_
       refine AW.cond Z (fun hh=>?_) (fun hh=>?_)
       ·have hh:hopeV x0 c0 z0=true:=hh
        refine AW.exit ?_
        refine zC7 ?_
        cases z0 with
        | none=>cases hh
        | some b0=>exact⟨⟨w.k+1,w.B,w.xs⟩,by dsimp only;omega,sM,zow,hw4,by dsimp only;omega,by dsimp only;omega,more _ (hwr.keep hmin hz0 (hopeV_le hh))⟩
       ·refine zC7 ?_
        refine AW.draw (ps:=[(3,6),(4,6)]) Z Z ?_
        refine zC7 ?_
        refine WT.vidx hT hsv4 Z Z Z Z Z Z Z Z Z zo (fun b7 hb7=>?_)
        obtain⟨ia,acs,ha1,ha2,_⟩:=hsv4.at_ hx0
        have hmemA:(b7,Blk.cells false acs)∈s.B:=by
         rw[ha1] at hb7
         injection hb7 with hb7
         injection hb7 with hb7
         rw[ha2,hb7];exact List.mem_cons_self ..
        refine WT.wldS hT 6 hsv4 hb7 hx0 Z Z Z Z Z Z (fun z hz=>hz) Z Z Z (fun lb hlb=>?_)
        refine zC7 ?_
        refine WT.callF0 Tryd.func65 Z Z Z Z Z Z (rthen_spec F4 hlb (b:=c0) ⟨za,zn,zc,rfl,hz⟩ zo) (fun F5 v2 hF5 hv2=>?_)
        obtain⟨l2,rfl,ya,yn,yc,rfl,hya⟩:=hv2
        have hw5:=hw4.mono hF5
        refine WT.allocT hT Z Z Z Z Z Z (fun i16 hi16=>?_)
        refine zC7 ?_
        refine⟨zrA,?_⟩
        refine zC7 ?_
        refine WT.vidx hT hw5 Z Z Z Z Z Z Z Z Z zo (fun b8 hb8=>?_)
        refine WT.wldS hT 5 hw5 hb8 hz0 Z Z Z Z Z Z (fun z hz=>hz) Z Z Z (fun lz2 hlz2=>?_)
        refine WT.callV Tryd.func25 Z Z Z Z Z Z (rless_spec F5 (x:=some (x0.app c0)) (y:=z0) ⟨ya,yn,yc,rfl,hya⟩ hlz2 (fun _ e=>by cases e;exact hall) (fun b e=>(hzok b e).2)) (fun v2 hv2=>?_)
        subst hv2
        refine zC7 ?_
        refine AW.cond Z (fun hl2=>?_) (fun hl2=>?_)
        ·have hl2:lessY (some (x0.app c0)) z0=true:=hl2
         refine zC7 ?_
         refine WT.vidx hT hw5 Z Z Z Z Z Z Z Z Z zo (fun b9 hb9=>?_)
         refine WT.vst (y:=some (x0.app c0)) hT 5 hw5 hb9 hz0 Z Z Z Z Z ⟨ya,yn,yc,rfl,hya⟩ Z (fun _=>rfl) Z (fun B9 hB9=>?_)
         refine zC7 ?_
         exact⟨⟨w.k+1,B9,w.xs.set w.k (some (x0.app c0))⟩,by dsimp only;omega,sM,zow,hB9,by dsimp only;omega,by dsimp only;omega,more _ (hwr.add hjv hA hmin hz0 hlow (fun b e=>(hzok b e).1) hl2)⟩
        ·have hl2:lessY (some (x0.app c0)) z0=false:=hl2
         refine zC7 ?_
         cases z0 with
         | none=>cases hl2
         | some b0=>exact⟨⟨w.k+1,w.B,w.xs⟩,by dsimp only;omega,sM,zow,hw5,by dsimp only;omega,by dsimp only;omega,more _ (hwr.keep hmin hz0 (lessY_keep hlow (hzok b0 rfl).1 hl2))⟩
     ·have hjv:w.k=v.length+1:=by simp at hd;omega
      skip
      refine AW.exit ?_
      refine zC7 ?_
      refine⟨⟨t.k+1,w.B,w.xs⟩,by dsimp only;omega,sM,zow,hw,by dsimp only;omega,by dsimp only;omega,hwr.congr fun x hx a=>?_⟩
      constructor
      ·rintro(⟨m,b,c,h1,h2,h3,h4⟩ | ⟨h1,h2,b,c,h3⟩)
       ·exact⟨m,b,c,h1,h2,by dsimp only;omega,h4⟩
       ·exact⟨t.k,b,c,hik,h1,by dsimp only;omega,h3⟩
      ·rintro⟨m,b,c,h1,h2,h3,h4⟩
       dsimp only at h3
       by_cases e:m=t.k
       ·subst e;exact .inr ⟨h2,by omega,b,c,h4⟩
       ·exact .inl ⟨m,b,c,h1,h2,by omega,h4⟩
   ·have hkv:t.k=v.length+1:=by simp at hd;omega
    skip
    refine AW.exit ?_
    refine zC7 ?_
    refine⟨⟨_,_,t.B,t.xs⟩,sM,OwnLe.cons _ (OwnLe.cons _ (OwnLe.cons _ (OwnLe.cons _ (OwnLe.skip _ (OwnLe.skip _ oR))))),ht,htr.congr fun x hx a=>?_⟩
    rw[htk,chW_snoc]
    exact⟨fun ⟨m,b,c,h1,h2,_,h⟩=>⟨m,b,c,h1,h2,h⟩,fun ⟨m,b,c,h1,h2,h⟩=>⟨m,b,c,h1,h2,by omega,h⟩⟩
  ·intro s F1 hF1 hP
   obtain⟨hsv,hsr⟩:=hP
   rw[List.take_of_length_le zo] at hsr
   refine zC7 ?_
   refine AW.ret ⟨_,[_,_,_,_],⟨_,_,rfl,rfl,rfl⟩,List.Sublist.cons_cons _ (List.Sublist.cons_cons _ (List.Sublist.cons_cons _ (List.Sublist.cons_cons _ (List.sublist_cons_self _ _)))),s,rfl,rfl,hsv,hsr.congr fun q hq a=>?_⟩
   unfold RuleD
   rw[if_neg hnn]
def updY(T:YTab)(n i j:Nat)(a:Way):YTab:=fun n' i' j'=>if n'=n∧i'=i∧j'=j then some a else T n' i' j'
theorem updY_row{T:YTab}{n i j L:Nat}{a:Way}(hj:j<L):(List.range L).map (updY T n i j a n i)=((List.range L).map (T n i)).set j (some a):=by
 refine List.ext_getElem? fun q=>?_
 by_cases hq:q<L
 ·rw[mapY_get hq]
  by_cases e:q=j
  ·subst e
   rw[List.getElem?_set_self (by simpa using hj)]
   simp[updY]
  ·rw[List.getElem?_set_ne (fun h=>e h.symm),mapY_get hq]
   simp[updY,e]
 ·rw[List.getElem?_eq_none_iff.2 (by simp;omega),List.getElem?_eq_none_iff.2 (by simp;omega)]
theorem updY_other{T:YTab}{n i j n' i':Nat}{a:Way}(h:¬(n'=n∧i'=i)):updY T n i j a n' i'=T n' i':=by
 funext q
 unfold updY
 rw[if_neg (fun h2=>h ⟨h2.1,h2.2.1⟩)]
theorem updY_at(T:YTab)(n i j:Nat)(a:Way):updY T n i j a n i j=some a:=if_pos ⟨rfl,rfl,rfl⟩
theorem updY_ne{T:YTab}{n i j n' i' j':Nat}{a:Way}(h:¬(n'=n∧i'=i∧j'=j)):updY T n i j a n' i' j'=T n' i' j':=if_neg h
theorem TabY.put{F:Frz}{v:List Nat}{m:Nat}{u:CT}(h:TabY F v m u){n i j:Nat}{a:Way}(hn:n<m)(hi:i≤v.length)(hij:i≤j)(hj:j≤v.length)(ha:OkW a){id c':Nat}{cs cs':List Value}(hid:u.RB[n*(v.length+1)+i]?=some (id,.cells false cs))
  (hv:Vec tWay F (some ⟨id,0,none⟩) (v.length+1) c' [(id,.cells false cs')] (((List.range (v.length+1)).map (u.T n i)).set j (some a))) :
  TabY F v m { u with RB:=u.RB.set (n*(v.length+1)+i) (id,.cells false cs'),T:=updY u.T n i j a }:=by
 refine⟨h.outer,by simp[h.rlen],fun n' hn'=>?_,h.pat,fun n' i' j' w hw=>?_⟩
 ·obtain⟨oa,c,vs,h1,h2,h3⟩:=h.row n' hn'
  refine⟨oa,c,vs,h1,h2,fun i' hi'=>?_⟩
  obtain⟨id',cs2,c2,h4,h5,h6⟩:=h3 i' hi'
  by_cases e:n'=n∧i'=i
  ·obtain⟨rfl,rfl⟩:=e
   rw[hid] at h5
   obtain⟨rfl,h7⟩:=Prod.mk.inj (Option.some.inj h5)
   refine⟨id,cs',c2,h4,by show (u.RB.set _ _)[_]?=_;rw[List.getElem?_set_self (by rw[h.rlen];exact idx_lt hn zo)],?_⟩
   show Vec tWay F _ _ _ _ ((List.range _).map (updY u.T n' i' j _ n' i'))
   rw[updY_row zo]
   exact⟨hv.len,h6.cap,h6.zero,h6.nil,h6.spot,hv.el⟩
  ·refine⟨id',cs2,c2,h4,?_,?_⟩
   ·show (u.RB.set _ _)[_]?=_
    rw[List.getElem?_set_ne (fun h7=>e (by have:=idx_inj zo zo h7;exact⟨this.1.symm,this.2.symm⟩))]
    exact h5
   ·show Vec tWay F _ _ _ _ ((List.range _).map (updY u.T n i j _ n' i'))
    rw[updY_other e];exact h6
 ·have hw2:updY u.T n i j a n' i' j'=some w:=hw
  by_cases e:n'=n∧i'=i∧j'=j
  ·obtain⟨rfl,rfl,rfl⟩:=e
   rw[updY_at] at hw2
   rw[←Option.some.inj hw2]
   exact⟨hij,hj,ha⟩
  ·rw[updY_ne e] at hw2
   exact h.val n' i' j' w hw2
def rkO:Option Way→Nat
 | none=>2000000*P4 1000
 | some a=>a.rank
def weight(m L:Nat)(T:YTab):Nat:=((List.range (m*L*L)).map fun p=>rkO (T (p / (L*L)) (p / L % L) (p % L))).sum
theorem sum_less{α:Type}{f h:α→Nat}:∀{l:List α},(∀x∈l,f x≤h x)→(∃x∈l,f x<h x)→(l.map f).sum<(l.map h).sum
 | [],_,⟨x,hx,_⟩=>by cases hx
 | a::l,hle,⟨x,hx,hlt⟩=>by
  have h1:=hle a me
  have h2:(l.map f).sum≤(l.map h).sum:=by
   have:∀l:List α,(∀x∈l,f x≤h x)→(l.map f).sum≤(l.map h).sum:=by
    intro l
    induction l with
    | nil=>intro _;simp
    | cons b l ih=>
     intro hb
     have:=hb b me
     have:=ih (fun x hx=>hb x (List.mem_cons_of_mem _ hx))
     simp only[List.map_cons,List.sum_cons];omega
   exact this l (fun x hx=>hle x (List.mem_cons_of_mem _ hx))
  simp only[List.map_cons,List.sum_cons]
  rcases List.mem_cons.1 hx with rfl | hx
  ·omega
  ·have:=sum_less (fun x hx=>hle x (List.mem_cons_of_mem _ hx)) ⟨x,hx,hlt⟩
   omega
theorem weight_put{m L:Nat}{T:YTab}{n i j:Nat}{a:Way}(hn:n<m)(hi:i<L)(hj:j<L)(h:a.rank<rkO (T n i j)):weight m L (updY T n i j a)<weight m L T:=by
 have h1:(n*L+i)*L+j<m*L*L:=idx_lt (idx_lt hn hi) hj
 have e1:((n*L+i)*L+j) % L=j:=by rw[Nat.mul_comm,Nat.mul_add_mod,Nat.mod_eq_of_lt hj]
 have e2:((n*L+i)*L+j) / L=n*L+i:=by rw[Nat.mul_comm,Nat.mul_add_div zo,Nat.div_eq_of_lt hj];omega
 have e3:(n*L+i) % L=i:=by rw[Nat.mul_comm,Nat.mul_add_mod,Nat.mod_eq_of_lt hi]
 have e4:((n*L+i)*L+j) / (L*L)=n:=by
  rw[←Nat.div_div_eq_div_mul,e2,Nat.mul_comm,Nat.mul_add_div zo,Nat.div_eq_of_lt hi];omega
 refine sum_less (fun p _=>?_) ⟨(n*L+i)*L+j,List.mem_range.2 h1,?_⟩
 ·by_cases e:p / (L*L)=n∧p / L % L=i∧p % L=j
  ·obtain⟨a1,a2,a3⟩:=e
   rw[a1,a2,a3,updY_at]
   exact Nat.le_of_lt h
  ·rw[updY_ne e];exact Nat.le_refl _
 ·rw[e1,e2,e3,e4,updY_at];exact h
def AllS(N:Nat)(T:YTab)(n B:Nat):Prop:=∀i j,i≤j→j≤N→∃a,T n i j=some a∧a.cost≤B+(j-i)
structure KInv(N m:Nat)(T:YTab)(K:List Nat):Prop where
 nodup:K.Nodup
 sub:∀n∈K,n<m
 all:∀n∈K,AllS N T n (3 ^ K.length)
 no:∀n,n∉K→∀i j,T n i j=none
def Yields(K:List Nat)(l:List Sym):Prop:=∀s∈l,s.term=false→s.n∈K
structure MInv(N m:Nat)(K:List Nat)(r:Rule)(i j:Nat)(T:YTab):Prop where
 nodup:K.Nodup
 sub:∀n∈K,n<m
 all:∀n∈K,AllS N T n (3 ^ K.length)
 no:∀n,n∉K→n≠r.left→∀i j,T n i j=none
 new:r.left∉K→Yields K r.right→∀i' j',i'≤j'→j'≤N→(i'<i∨i'=i∧j'<j)→∃a,T r.left i' j'=some a∧a.cost≤3 ^ (K.length+1)+(j'-i')
 old:r.left∉K→∀i' j',¬(Yields K r.right∧(i'<i∨i'=i∧j'<j))→T r.left i' j'=none
theorem KInv.start{N m:Nat}{T:YTab}{K:List Nat}(h:KInv N m T K)(r:Rule):MInv N m K r 0 0 T:=
 ⟨h.nodup,h.sub,h.all,fun n hn _=>h.no n hn,fun _ _ i' j' _ _ h=>by omega,fun hn i' j' _=>h.no _ hn i' j'⟩
theorem MInv.row{N m:Nat}{K:List Nat}{r:Rule}{i:Nat}{T:YTab}(h:MInv N m K r i (N+1) T)(ho:∀n i j a,T n i j=some a→j≤N):MInv N m K r (i+1) 0 T:=
 ⟨h.nodup,h.sub,h.all,h.no,fun h1 h2 i' j' h3 h4 h5=>h.new h1 h2 i' j' h3 h4 zo,fun h1 i' j' h2=>by
  by_cases hj:j'≤N
  ·exact h.old h1 i' j' (fun h3=>h2 ⟨h3.1,by omega⟩)
  ·cases e:T r.left i' j' with
   | none=>rfl
   | some a=>exact absurd (ho _ _ _ _ e) hj⟩
theorem MInv.done{N m:Nat}{K:List Nat}{r:Rule}{T:YTab}(h:MInv N m K r (N+1) 0 T)(hl:r.left<m):∃K,KInv N m T K:=by
 by_cases h1:r.left∈K
 ·exact⟨K,h.nodup,h.sub,h.all,fun n hn=>h.no n hn (fun e=>hn (e▸h1))⟩
 ·by_cases h2:Yields K r.right
  ·refine⟨r.left::K,List.nodup_cons.2 ⟨h1,h.nodup⟩,fun n hn=>?_,fun n hn=>?_,fun n hn=>?_⟩
   ·rcases List.mem_cons.1 hn with rfl | hn
    ·exact hl
    ·exact h.sub n hn
   ·rcases List.mem_cons.1 hn with rfl | hn
    ·exact fun i j hi hj=>h.new h1 h2 i j hi hj zo
    ·intro i j hi hj
     obtain⟨a,ha,hc⟩:=h.all n hn i j hi hj
     have:=Nat.pow_le_pow_right (show 0<3 by decide) (show K.length≤K.length+1 by omega)
     exact⟨a,ha,by rw[List.length_cons];omega⟩
   ·exact h.no n (fun e=>hn (List.mem_cons_of_mem _ e)) (fun e=>hn (e▸List.mem_cons_self ..))
  ·exact⟨K,h.nodup,h.sub,h.all,fun n hn=>by
    by_cases e:n=r.left
    ·subst e;exact fun i j=>h.old h1 i j (fun h3=>h2 h3.1)
    ·exact h.no n hn e⟩
theorem few_known{m:Nat}{K:List Nat}(h1:K.Nodup)(h2:∀n∈K,n<m):K.length≤m:=nodup_lt m K h1 h2
theorem chW_cost{Y:Sym→Nat→Nat→Option Way}{B N:Nat}:∀{l:List Sym},(∀s∈l,∀i j a,i≤j→j≤N→Y s i j=some a→a.cost≤B+(j-i))→∀{i j:Nat} {a:Way},j≤N→ChW Y l i j a→a.cost≤l.length*B+(j-i)
 | [],_,i,j,a,_,⟨_,h⟩=>by rw[h];exact Nat.zero_le _
 | s::l,hs,i,j,a,hj,⟨m,b,c,h1,h2,h3,h4,h5⟩=>by
  have h6:=hs s me i m b h1 zo h3
  have h7:=chW_cost (fun x hx=>hs x (List.mem_cons_of_mem _ hx)) hj h4
  rw[h5]
  simp only[Way.app,List.length_cons,Nat.add_mul,Nat.one_mul]
  omega
theorem chW_some{Y:Sym→Nat→Nat→Option Way}{N:Nat}:∀{l:List Sym},(∀s∈l,∀i j,i≤j→j≤N→∃a,Y s i j=some a)→l≠[]→∀{i j:Nat},i≤j→j≤N→∃a,ChW Y l i j a
 | [],_,h,_,_,_,_=>absurd rfl h
 | [s],hs,_,i,j,h1,h2=>by
  obtain⟨a,ha⟩:=hs s me i j h1 h2
  exact⟨a,j,a,⟨0,[]⟩,h1,Nat.le_refl _,ha,⟨rfl,rfl⟩,(Way.app_nil a).symm⟩
 | s::s2::l,hs,_,i,j,h1,h2=>by
  obtain⟨a,ha⟩:=hs s me i j h1 h2
  obtain⟨b,hb⟩:=chW_some (l:=s2::l) (fun x hx=>hs x (List.mem_cons_of_mem _ hx)) (by simp) (Nat.le_refl j) h2
  exact⟨_,j,a,b,h1,Nat.le_refl _,ha,hb,rfl⟩
theorem MInv.first{N m:Nat}{K:List Nat}{r:Rule}{i:Nat}{T:YTab}{v:List Nat}(h:MInv N m K r i 0 T)(hv:v.length=N)(hN:N≤12)(hl:r.left∉K)(hr3:r.right.length≤3)(ho:∀n i j a,T n i j=some a→i≤j){j:Nat}{a:Way}(hj:j≤N)(ha:RuleD (symY v T) r.right i j a) :
  Yields K r.right∧a.cost≤3 ^ (K.length+1)+(j-i):=by
 unfold RuleD at ha
 split at ha
 ·rename_i e
  obtain⟨h1,rfl⟩:=ha
  exact⟨fun s hs=>(by rw[e] at hs;cases hs),Nat.le_add_left _ _⟩
 ·
  have hin:∀{l:List Sym} {k j:Nat} {a:Way},(∀s∈l,s∈r.right)→i≤k→ChW (symY v T) l k j a→∀s∈l,s.term=false→s.n∈K:=by
   intro l
   induction l with
   | nil=>intro k j a _ _ _ s hs;cases hs
   | cons s l ih=>
    rintro k j a hsub hk ⟨q,b,c,h1,h2,h3,h4,h5⟩ x hx ht
    rcases List.mem_cons.1 hx with rfl | hx
    ·refine Classical.byContradiction fun hn=>?_
     unfold symY at h3
     rw[if_neg (by simp[ht])] at h3
     by_cases e:x.n=r.left
     ·rw[e] at h3
      have:=h.old hl k q zo
      rw[this] at h3;cases h3
     ·rw[h.no x.n hn e] at h3;cases h3
    ·exact ih (fun y hy=>hsub y (List.mem_cons_of_mem _ hy)) zo h4 x hx ht
  have hy:Yields K r.right:=hin (fun s h=>h) (Nat.le_refl _) ha
  refine⟨hy,?_⟩
  have h3:1≤3 ^ K.length:=Nat.one_le_pow _ _ (by decide)
  have hc:=chW_cost (B:=3 ^ K.length) (N:=N) (fun s hs i j a hij hj ha=>by
   unfold symY at ha
   by_cases ht:s.term=true
   ·rw[if_pos ht] at ha
    cases ha
    show oneC v s.n i j≤_
    unfold oneC
    split
    ·omega
    ·split<;>omega
   ·rw[if_neg ht] at ha
    obtain⟨b,hb,hbc⟩:=h.all s.n (hy s hs (by simpa using ht)) i j hij hj
    rw[hb] at ha
    rw[←Option.some.inj ha];exact hbc) hj ha
  have:=Nat.mul_le_mul_right (3 ^ K.length) hr3
  rw[Nat.pow_succ]
  omega
theorem MInv.yes{N m:Nat}{K:List Nat}{r:Rule}{i j:Nat}{T:YTab}{v:List Nat}(h:MInv N m K r i 0 T)(hv:v.length=N)(hy:Yields K r.right)(hij:i≤j)(hj:j≤N):∃a,RuleD (symY v T) r.right i j a:=by
 unfold RuleD
 split
 ·exact⟨_,hij,rfl⟩
 ·rename_i hn
  refine chW_some (N:=N) (fun s hs i j hij hj=>?_) hn hij hj
  unfold symY
  by_cases ht:s.term=true
  ·rw[if_pos ht];exact⟨_,rfl⟩
  ·rw[if_neg ht]
   obtain⟨b,hb,_⟩:=h.all s.n (hy s hs (by simpa using ht)) i j hij hj
   exact⟨b,hb⟩
theorem MInv.put{N m:Nat}{K:List Nat}{r:Rule}{i j:Nat}{T:YTab}(h:MInv N m K r i j T)(hij:i≤j){a:Way}(hk:r.left∈K→∀z,T r.left i j=some z→a.cost≤z.cost)
  (hn:r.left∉K→Yields K r.right∧a.cost≤3 ^ (K.length+1)+(j-i)):MInv N m K r i (j+1) (updY T r.left i j a):=by
 refine⟨h.nodup,h.sub,fun n hn2 i' j' h1 h2=>?_,fun n h1 h2 i' j'=>?_,fun h1 h2 i' j' h3 h4 h5=>?_,fun h1 i' j' h2=>?_⟩
 ·by_cases e:n=r.left∧i'=i∧j'=j
  ·obtain⟨rfl,rfl,rfl⟩:=e
   obtain⟨z,hz,hc⟩:=h.all _ hn2 i' j' h1 h2
   exact⟨a,updY_at ..,by have:=hk hn2 z hz;omega⟩
  ·rw[updY_ne e];exact h.all n hn2 i' j' h1 h2
 ·rw[updY_ne (fun e=>h2 e.1)];exact h.no n h1 h2 i' j'
 ·by_cases e:i'=i∧j'=j
  ·obtain⟨rfl,rfl⟩:=e
   exact⟨a,updY_at ..,(hn h1).2⟩
  ·rw[updY_ne (fun e2=>e e2.2)]
   exact h.new h1 h2 i' j' h3 h4 zo
 ·have h3:=(hn h1).1
  rw[updY_ne (fun e=>h2 ⟨h3,by omega⟩)]
  exact h.old h1 i' j' (fun h4=>h2 ⟨h4.1,by omega⟩)
theorem MInv.skip{N m:Nat}{K:List Nat}{r:Rule}{i j:Nat}{T:YTab}(h:MInv N m K r i j T)(hn:r.left∉K→Yields K r.right→j<i)(ho:∀n i j a,T n i j=some a→i≤j):MInv N m K r i (j+1) T:=by
 refine⟨h.nodup,h.sub,h.all,h.no,fun h1 h2 i' j' h3 h4 h5=>?_,fun h1 i' j' h2=>?_⟩
 ·have:=hn h1 h2
  exact h.new h1 h2 i' j' h3 h4 zo
 ·exact h.old h1 i' j' (fun h3=>h2 ⟨h3.1,by omega⟩)
end Go.Proofs.D