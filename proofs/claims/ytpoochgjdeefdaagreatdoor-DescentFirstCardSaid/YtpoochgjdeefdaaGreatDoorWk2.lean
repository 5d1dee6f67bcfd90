/-
  Walks: what functions of the program do, over the abstract machine.
-/
import Derived.Test.YtpoochgjdeefdaaGreatDoorWk1
import Derived.Sort.Lot0
set_option linter.unusedVariables false
set_option maxRecDepth 20000
set_option maxHeartbeats 0
open Go Go.Abs Go.Proofs Go.Proofs.D
namespace Go.Proofs.D
def tPtr:Ty Nat where
 size:=1
 rel:=fun _ l p=>l=[.pointer (some ⟨p,0,none⟩)]
 len:=fun _ _ _ h=>by rw[h];rfl
 one:=fun _ _ _ h=>by rw[h];rfl
 mono:=fun _ _ _ _ _ h=>h
mutual
inductive Sh(F:Frz):Nat→Tree→Prop
 | mk {p:Nat} {r:Int} {t:Nat} {ks:List Tree} {a:Option Addr} {n c:Nat} {ps:List Nat}:F p=some (.cells false [.int .i64 r,.int .i64 t,.int .i64 ((Tree.mk r t ks).pre.length:Nat),.slice a n c])→Arr tPtr F a n c ps→ShL F ps ks→Sh F p (.mk r t ks)
inductive ShL(F:Frz):List Nat→List Tree→Prop
 | nil:ShL F [] []
 | cons {p:Nat} {t:Tree} {ps:List Nat} {ts:List Tree}:Sh F p t→ShL F ps ts→ShL F (p::ps) (t::ts)
end
mutual
theorem Sh.mono{F G:Frz}(hF:Frz.le F G):∀{t:Tree} {p:Nat},Sh F p t→Sh G p t
 | .mk _ _ ks,_,.mk h1 h2 h3=>.mk (hF _ _ h1) (h2.mono hF) (ShL.mono hF h3)
theorem ShL.mono{F G:Frz}(hF:Frz.le F G):∀{ts:List Tree} {ps:List Nat},ShL F ps ts→ShL G ps ts
 | [],_,.nil=>.nil
 | _::_,_,.cons h1 h2=>.cons (Sh.mono hF h1) (ShL.mono hF h2)
end
theorem arr_ptr_uniq{F:Frz}{a:Option Addr}{n c:Nat}{ps qs:List Nat}(h:Arr tPtr F a n c ps)(h2:Arr tPtr F a n c qs):ps=qs:=by
 refine List.ext_getElem (by rw[←h.len,←h2.len]) fun i hi hj=>?_
 obtain⟨b,off,ro,cs,l,e1,e2,e3,e4⟩:=h.el i _ (gE hi)
 obtain⟨b',off',ro',cs',l',g1,g2,g3,g4⟩:=h2.el i _ (gE hj)
 rw[e1] at g1;cases g1
 rw[e2] at g2;cases g2
 rw[e3] at g3;cases g3
 have e4:l=_:=e4
 rw[e4] at g4
 have g4:[Value.pointer (some ⟨ps[i],0,none⟩)]=[Value.pointer (some ⟨qs[i],0,none⟩)]:=g4
 simpa using g4
mutual
theorem Sh.uniq{F:Frz}:∀{t u:Tree} {p:Nat},Sh F p t→Sh F p u→t=u
 | .mk _ _ ks,.mk _ _ ls,_,.mk h1 h2 h3,.mk g1 g2 g3=>by
  rw[h1] at g1
  simp only[Option.some.injEq,Blk.cells.injEq,true_and,List.cons.injEq,Value.int.injEq,Value.slice.injEq,and_true] at g1
  obtain⟨rfl,e2,_,rfl,rfl,rfl⟩:=g1
  obtain rfl:=Int.ofNat_inj.1 e2
  obtain rfl:=arr_ptr_uniq h2 g2
  rw[ShL.uniq h3 g3]
theorem ShL.uniq{F:Frz}:∀{ts us:List Tree} {ps:List Nat},ShL F ps ts→ShL F ps us→ts=us
 | [],[],_,_,_=>rfl
 | [],_::_,_,.nil,h=>by cases h
 | _::_,[],_,.cons _ _,h=>by cases h
 | _::_,_::_,_,.cons h1 h2,.cons g1 g2=>by rw[Sh.uniq h1 g1,ShL.uniq h2 g2]
end
theorem ShL.len{F:Frz}:∀{ps:List Nat} {ts:List Tree},ShL F ps ts→ts.length=ps.length
 | [],[],_=>rfl
 | _::_,_::_,.cons _ h=>by simp[ShL.len h]
theorem ShL.at_{F:Frz}:∀{ps:List Nat} {ts:List Tree},ShL F ps ts→∀{i p:Nat} {t:Tree},ps[i]?=some p→ts[i]?=some t→Sh F p t
 | _::_,_::_,.cons h h2,0,p,t,h3,h4=>by simp at h3 h4;subst h3 h4;exact h
 | _::_,_::_,.cons h h2,i+1,p,t,h3,h4=>ShL.at_ h2 (by simpa using h3) (by simpa using h4)
 | [],[],_,i,p,t,h3,_=>by simp at h3
theorem ShL.app{F:Frz}:∀{ps qs:List Nat} {ts us:List Tree},ShL F ps ts→ShL F qs us→ShL F (ps++qs) (ts++us)
 | [],_,[],_,_,h=>h
 | _::_,_,_::_,_,.cons h h1,h2=>.cons h (ShL.app h1 h2)
theorem preL_app:∀(a b:List Tree),preL (a++b)=preL a++preL b
 | [],_=>rfl
 | t::a,b=>by
  show t.pre++preL (a++b)=(t.pre++preL a)++preL b
  rw[preL_app a b,List.append_assoc]
theorem pre_pos(t:Tree):1≤t.pre.length:=by
 cases t with
 | mk r t ks=>show 1≤(r::preL ks).length;simp
theorem preL_ge:∀(ts:List Tree),ts.length≤(preL ts).length
 | []=>Nat.le_refl _
 | t::ts=>by
  have:=preL_ge ts
  have h2:=pre_pos t
  show _≤(t.pre++preL ts).length
  simp only[List.length_cons,List.length_append];omega
theorem lexLt_cancel:∀(a:List Int) {x y:List Int},lexLt (a++x) (a++y)↔lexLt x y
 | [],_,_=>Iff.rfl
 | b::a,x,y=>by
  show (b<b∨(b=b∧lexLt (a++x) (a++y)))↔_
  rw[lexLt_cancel a]
  constructor
  ·rintro(h | h)
   ·omega
   ·exact h.2
  ·exact fun h=>.inr ⟨rfl,h⟩
structure CmS where
 i:Nat
 v:Int
 a:Option Addr
 n:Nat
 c:Nat
 B:List (Nat×Blk)
 ps:List Nat
structure CoS2 where
 xa:Option Addr
 xn:Nat
 xc:Nat
 XB:List (Nat×Blk)
 xs:List Nat
 X:List Tree
 ya:Option Addr
 yn:Nat
 yc:Nat
 YB:List (Nat×Blk)
 ys:List Nat
 Y:List Tree
theorem ShL.rev{F:Frz}:∀{ps:List Nat} {ts:List Tree},ShL F ps ts→ShL F ps.reverse ts.reverse
 | [],[],_=>.nil
 | _::_,_::_,.cons h h2=>by
  rw[List.reverse_cons,List.reverse_cons]
  exact ShL.app (ShL.rev h2) (.cons h .nil)
theorem preL_cons(t:Tree)(ts:List Tree):preL (t::ts)=t.pre++preL ts:=rfl
theorem stack_top{F:Frz}{ps:List Nat}{ts:List Tree}(h:ShL F ps ts)(hn:0<ps.length):∃p t ps' ts',ps=ps'++[p]∧ts=ts'++[t]∧ShL F ps' ts'∧Sh F p t∧ps[ps.length-1]?=some p∧ps.take (ps.length-1)=ps':=by
 have h2:=h.rev
 cases hp:ps.reverse with
 | nil=>rw[List.reverse_eq_nil_iff] at hp;subst hp;simp at hn
 | cons p qs=>
  cases ht:ts.reverse with
  | nil=>rw[hp,ht] at h2;cases h2
  | cons t us=>
   rw[hp,ht] at h2
   cases h2 with
   | cons h3 h4=>
    have e1:ps=qs.reverse++[p]:=by rw[←List.reverse_reverse ps,hp,List.reverse_cons]
    have e2:ts=us.reverse++[t]:=by rw[←List.reverse_reverse ts,ht,List.reverse_cons]
    refine⟨p,t,qs.reverse,us.reverse,e1,e2,h4.rev,h3,?_,?_⟩
    ·rw[e1];simp
    ·rw[e1];simp
theorem tcompare_spec(F:Frz){p q:Nat}{a b:Tree}(ha:Sh F p a)(hb:Sh F q b)(hal:a.pre.length≤100000)(hbl:b.pre.length≤100000) :
  Abs.Spec CC 186 [.pointer (some ⟨p,0,none⟩),.pointer (some ⟨q,0,none⟩)] F [] fun _ v o=>o=[]∧∃z,v=.int .i64 z∧(z<0↔tlt a b):=by
 cases ha with
 | @mk _ ar at_ aks aa an ac aps ha1 ha2 ha3=>
 cases hb with
 | @mk _ br bt bks ba bn bc bps hb1 hb2 hb3=>
 refine Abs.Spec.fn (n:=124) Tryz.func186 rfl rfl fun own=>?_
 refine zB4 ?_
 refine AW.cond Z (fun hc=>?_) (fun hc=>?_)
 ·have hne:(Tree.mk ar at_ aks).pre.length≠(Tree.mk br bt bks).pre.length:=fun e=>by rw[e] at hc;simp at hc
  refine zB4 ?_
  refine WT.callV Tryz.func48 Z Z Z Z Z Z (compare_spec _ _ _) (fun v hv=>?_)
  subst hv
  refine zB4 ?_
  refine AW.ret ⟨_,[],⟨_,_,rfl,rfl,rfl⟩,zsb,rfl,_,rfl,?_⟩
  unfold cmpInt tlt wlt
  constructor
  ·intro h
   left
   split at h
   ·omega
   ·split at h<;>omega
  ·rintro(h | h)
   ·rw[if_pos zo];decide
   ·exact absurd h.1 hne
 ·have heq:(Tree.mk ar at_ aks).pre.length=(Tree.mk br bt bks).pre.length:=by simp at hc;omega
  have hA:Sh F p (.mk ar at_ aks):=.mk ha1 ha2 ha3
  have hB:Sh F q (.mk br bt bks):=.mk hb1 hb2 hb3
  generalize Tree.mk ar at_ aks=a at *
  generalize Tree.mk br bt bks=b at *
  refine zB4 ?_
  refine WT.buildT hT Z Z Z Z Z Z Z Z Z Z Z Z Z Z (fun i30 hi30=>?_)
  refine zB4 ?_
  refine WT.buildT hT Z Z Z Z Z Z Z Z Z Z Z Z Z Z (fun i32 hi32=>?_)
  refine zB4 ?_
  refine AW.block ?_
  refine AW.loopR (S:=CoS2) (fun s=>[(5,.slice s.xa s.xn s.xc),(6,.slice s.ya s.yn s.yc)]) (fun s=>s.YB::s.XB::own)
   (fun s G=>GB tPtr G s.xa s.xn s.xc s.XB s.xs∧ShL G s.xs s.X∧GB tPtr G s.ya s.yn s.yc s.YB s.ys∧ShL G s.ys s.Y∧(preL s.X.reverse).length=(preL s.Y.reverse).length∧(lexLt a.pre b.pre↔lexLt (preL s.X.reverse) (preL s.Y.reverse))∧(preL s.X.reverse).length≤100000)
   (fun s=>(preL s.X.reverse).length) ⟨_,_,_,_,[p],[a],_,_,_,_,[q],[b]⟩
   sM oR ⟨⟨rfl,.inr ⟨_,_,[],rfl,rfl,rfl,Cells.single (R:=tPtr) rfl,by decide⟩⟩,.cons hA .nil,⟨rfl,.inr ⟨_,_,[],rfl,rfl,rfl,Cells.single (R:=tPtr) rfl,by decide⟩⟩,.cons hB .nil,?_,?_,?_⟩ ?_
  ·simpa [preL] using heq
  ·simp[preL]
  ·simpa [preL] using hal
  intro s F1 hF1 hP
  obtain⟨hx,hX,hy,hY,hlen,hlex,hsm⟩:=hP
  have hxl:=hx.len
  have hyl:=hy.len
  refine zB4 ?_
  have hxr:=hX.len
  have hyr:=hY.len
  have hxg:=preL_ge s.X.reverse
  have hyg:=preL_ge s.Y.reverse
  rw[List.length_reverse] at hxg hyg
  have full:0<s.xn→0<s.yn:=fun h=>by
   obtain⟨p1,t1,ps1,ts1,e1,e2,_,_,_,_⟩:=stack_top hX zo
   rw[e2] at hlen
   simp only[List.reverse_append,List.reverse_cons,List.reverse_nil,List.nil_append,List.cons_append,preL_cons,List.length_append] at hlen
   have:=pre_pos t1
   rcases Nat.eq_zero_or_pos s.yn with h0 | h0
   ·exfalso
    have:s.Y=[]:=List.eq_nil_of_length_eq_zero zo
    have:(preL s.Y.reverse).length=0:=by rw[this];rfl
    omega
   ·exact h0
  refine WT.split 36 Z (fun hc1=>?_) (fun hc1=>?_)
  rotate_left
  ·have hx0:s.X=[]:=List.eq_nil_of_length_eq_zero (by simp at hc1;omega)
   refine zB4 ?_
   refine AW.cond Z (fun h=>(by cases h)) (fun _=>?_)
   refine AW.exit ?_
   refine zB4 ?_
   refine AW.ret ⟨_,[],⟨_,_,rfl,rfl,rfl⟩,zsb,rfl,_,rfl,?_⟩
   have hX0:preL s.X.reverse=[]:=by rw[hx0];rfl
   have hY0:preL s.Y.reverse=[]:=List.eq_nil_of_length_eq_zero (by rw[←hlen,hX0];rfl)
   rw[hX0,hY0] at hlex
   constructor
   ·intro h;omega
   ·rintro(h | h)
    ·omega
    ·exact(hlex.1 h.2).elim
  ·have hx1:0<s.xn:=by simpa using hc1
   have hy1:=full hx1
   obtain⟨p1,t1,ps1,ts1,ep1,et1,hX1,hp1,hgx,htx⟩:=stack_top hX zo
   obtain⟨q1,u1,qs1,us1,eq1,eu1,hY1,hq1,hgy,hty⟩:=stack_top hY zo
   refine zC4 ?_
   refine AW.cond Z (fun _=>?_) (fun h=>?_)
   rotate_left
   ·simp at h;omega
   refine zC4 ?_
   refine AW.block ?_
   refine zC4 ?_
   refine WT.gidx hT hx Z Z Z Z Z Z Z Z Z zo (fun b1 hb1=>?_)
   refine WT.gld1 (x:=p1) hT 1 hx hb1 (by rw[hxl];exact hgx) Z Z Z Z Z Z (fun z hz=>hz) Z Z Z (fun v hv=>?_)
   obtain rfl:v=_:=(List.singleton_inj.1 hv)
   refine zC4 ?_
   refine WT.gidx hT hy Z Z Z Z Z Z Z Z Z zo (fun b2 hb2=>?_)
   refine WT.gld1 (x:=q1) hT 0 hy hb2 (by rw[hyl];exact hgy) Z Z Z Z Z Z (fun z hz=>hz) Z Z Z (fun v hv=>?_)
   obtain rfl:v=_:=(List.singleton_inj.1 hv)
   refine zC4 ?_
   refine WT.sliceG hT hx Z Z Z Z Z Z Z Z Z (show s.xn-1≤s.xn by omega) ?_
   refine zC4 ?_
   refine WT.sliceG hT hy Z Z Z Z Z Z Z Z Z (show s.yn-1≤s.yn by omega) ?_
   refine zC4 ?_
   have hx2:=(hx.take (show s.xn-1≤s.xn by omega))
   have hy2:=(hy.take (show s.yn-1≤s.yn by omega))
   rw[show s.xs.take (s.xn-1)=ps1 by rw[hxl];exact htx] at hx2
   rw[show s.ys.take (s.yn-1)=qs1 by rw[hyl];exact hty] at hy2
   have fx:∃cs,F1 p1=some (.cells false cs):=by cases hp1 with | mk h _ _=>exact⟨_,h⟩
   have fy:∃cs,F1 q1=some (.cells false cs):=by cases hq1 with | mk h _ _=>exact⟨_,h⟩
   obtain⟨fxc,fx⟩:=fx
   obtain⟨fyc,fy⟩:=fy
   have elenx:(preL s.X.reverse)=t1.pre++preL ts1.reverse:=by rw[et1,List.reverse_append];rfl
   have eleny:(preL s.Y.reverse)=u1.pre++preL us1.reverse:=by rw[eu1,List.reverse_append];rfl
   have hsm0:=hsm
   have hlen0:=hlen
   rw[elenx,eleny] at hlen hlex
   rw[elenx] at hsm
   refine WT.ptrEq hT Z Z Z Z Z Z fx fy Z Z Z ?_
   refine zC4 ?_
   refine AW.cond Z (fun he=>?_) (fun he=>?_)
   ·obtain rfl:p1=q1:=by simpa using he
    obtain rfl:=Sh.uniq hp1 hq1
    refine AW.exit ?_
    skip
    refine⟨⟨_,_,_,_,ps1,ts1,_,_,_,_,qs1,us1⟩,?_,sM,zow,hx2,hX1,hy2,hY1,?_,?_,?_⟩
    ·show (preL ts1.reverse).length<_
     have:=pre_pos t1
     rw[elenx,List.length_append];omega
    ·simp only[List.length_append] at hlen
     show (preL ts1.reverse).length=(preL us1.reverse).length
     omega
    ·rw[hlex,lexLt_cancel]
    ·simp only[List.length_append] at hsm
     show (preL ts1.reverse).length≤_
     omega
   have hp0:=hp1
   have hq0:=hq1
   cases hp1 with
   | @mk _ tr tt tks ta tn tc tps g1 g2 g3=>
   cases hq1 with
   | @mk _ ur ut uks ua un uc ups k1 k2 k3=>
   refine zC4 ?_
   refine AW.cond Z (fun hc=>?_) (fun hc=>?_)
   ·have hne:tr≠ur:=by simpa using hc
    refine zC4 ?_
    refine WT.callV Tryz.func48 Z Z Z Z Z Z (compare_spec _ _ _) (fun v hv=>?_)
    subst hv
    refine zC4 ?_
    refine AW.ret ⟨_,[],⟨_,_,rfl,rfl,rfl⟩,zsb,rfl,_,rfl,?_⟩
    have e:lexLt a.pre b.pre↔tr<ur:=by
     rw[hlex]
     show (tr<ur∨(tr=ur∧_))↔_
     constructor
     ·rintro(h | h)
      ·exact h
      ·exact absurd h.1 hne
     ·exact fun h=>.inl h
    unfold cmpInt tlt wlt
    constructor
    ·intro h
     right
     refine⟨heq,e.2 ?_⟩
     split at h
     ·assumption
     ·split at h<;>omega
    ·rintro(h | h)
     ·omega
     ·rw[if_pos (e.1 h.2)];decide
   ·obtain rfl:tr=ur:=by simpa using hc
    have htl:=g2.len
    have hul:=k2.len
    have gl:=g3.len
    have kl:=k3.len
    have hb1:tn≤100000:=by
     have h1:=preL_ge tks
     have h2:(Tree.mk tr tt tks).pre.length=(preL tks).length+1:=rfl
     rw[List.length_append,h2] at hsm
     omega
    have hb2:un≤100000:=by
     have h1:=preL_ge uks
     have h2:(Tree.mk tr ut uks).pre.length=(preL uks).length+1:=rfl
     have h3:=hlen
     rw[List.length_append,List.length_append,h2] at h3
     rw[List.length_append] at hsm
     omega
    have hx2l:=hx2.len
    have hy2l:=hy2.len
    have hps1:s.xs.length=ps1.length+1:=by rw[ep1];simp
    have hqs1:s.ys.length=qs1.length+1:=by rw[eq1];simp
    refine zB4 ?_
    refine AW.block ?_
    refine AW.loopR (S:=CmS) (fun z=>[(9,.int .i64 z.v),(5,.slice z.a z.n z.c)]) (fun z=>s.YB::z.B::own)
     (fun z G=>GB tPtr G z.a z.n z.c z.B z.ps∧z.i≤tn∧z.ps=ps1++tps.reverse.take z.i∧z.v=(tn:Int)-1-z.i) (fun z=>tn-z.i) ⟨0,_,_,_,_,_,ps1⟩
     sM oR ⟨hx2,Nat.zero_le _,by simp,by simp⟩ ?_
    intro z F2 hF2 hQ
    obtain⟨hz,hzi,hzp,hzv⟩:=hQ
    have hzl:=hz.len
    have hzb:z.ps.length≤300000:=by
     rw[hzp];simp;omega
    have gA:=(hF2) _ _ g1
    have gB:=g2.mono (hF2)
    refine zB4 ?_
    refine AW.cond Z (fun hc3=>?_) (fun hc3=>?_)
    ·have hc3:z.i<tn:=by simp at hc3;omega
     refine zB4 ?_
     refine AW.block ?_
     refine zB4 ?_
     refine WT.know (v':=.int .i64 ((tn-1-z.i:Nat):Int)) 99 Z (by congr 1;omega) ?_
     refine WT.idxL (j:=tn-1-z.i) hT gB Z Z Z Z Z Z Z Z Z zo (fun y hy7 b7 off7 ro7 cs7 lx7 hb7 hp7 hrel7=>?_)
     obtain rfl:lx7=_:=hrel7
     refine zB4 ?_
     refine WT.buildT hT Z Z Z Z Z Z Z Z Z Z Z Z Z Z (fun i9 hi9=>?_)
     refine WT.appendG (ys:=[y]) hT 2 hz Z (fun _=>rfl) Z Z Z Z Z Z Z Z Z Z Z (fun h0 s0=>news_own hT s0 0 Z Z Z Z) (Cells.single (R:=tPtr) (x:=y) rfl) Z (by decide) zom (fun a3 c3 B3 hB3=>?_)
     refine zB4 ?_
     refine⟨⟨z.i+1,z.v-1,a3,z.n+1,c3,B3,z.ps++[y]⟩,by show tn-(z.i+1)<tn-z.i;omega,sM,zow,hB3.gb,by show z.i+1≤tn;omega,?_,by show z.v-1=_-_-((z.i+1:Nat):Int);omega⟩
     show z.ps++[y]=_++tps.reverse.take (z.i+1)
     rw[hzp,List.take_add_one,List.getElem?_reverse zo,show tps.length-1-z.i=tn-1-z.i by omega,hy7,List.append_assoc];rfl
    ·have hzi:z.i=tn:=by simp at hc3;omega
     rw[hzi,List.take_of_length_le (by simp;omega)] at hzp
     have hz1:=hz
     have hzp1:=hzp
     have k1':=hF2 _ _ k1
     refine AW.exit ?_
     refine zB4 ?_
     refine AW.block ?_
     refine AW.loopR (S:=CmS) (fun z=>[(10,.int .i64 z.v),(6,.slice z.a z.n z.c)]) (fun zz=>zz.B::z.B::own)
      (fun z G=>GB tPtr G z.a z.n z.c z.B z.ps∧z.i≤un∧z.ps=qs1++ups.reverse.take z.i∧z.v=(un:Int)-1-z.i) (fun z=>un-z.i) ⟨0,_,_,_,_,_,qs1⟩
      sM oR ⟨(hy2.mono hF2),Nat.zero_le _,by simp,by simp⟩ ?_
     intro zy F3 hF3 hQ
     obtain⟨hz,hzi,hzp,hzv⟩:=hQ
     have hzl:=hz.len
     have hzb:zy.ps.length≤300000:=by
      rw[hzp];simp;omega
     have gA:=(hF2.trans hF3) _ _ k1
     have gB:=k2.mono (hF2.trans hF3)
     refine zB4 ?_
     refine AW.cond Z (fun hc3=>?_) (fun hc3=>?_)
     ·have hc3:zy.i<un:=by simp at hc3;omega
      refine zB4 ?_
      refine AW.block ?_
      refine zB4 ?_
      refine WT.know (v':=.int .i64 ((un-1-zy.i:Nat):Int)) 119 Z (by congr 1;omega) ?_
      refine WT.idxL (j:=un-1-zy.i) hT gB Z Z Z Z Z Z Z Z Z zo (fun y hy7 b7 off7 ro7 cs7 lx7 hb7 hp7 hrel7=>?_)
      obtain rfl:lx7=_:=hrel7
      refine zB4 ?_
      refine WT.buildT hT Z Z Z Z Z Z Z Z Z Z Z Z Z Z (fun i9 hi9=>?_)
      refine WT.appendG (ys:=[y]) hT 1 hz Z (fun _=>rfl) Z Z Z Z Z Z Z Z Z Z Z (fun h0 s0=>news_own hT s0 0 Z Z Z Z) (Cells.single (R:=tPtr) (x:=y) rfl) Z (by decide) zom (fun a3 c3 B3 hB3=>?_)
      refine zB4 ?_
      refine⟨⟨zy.i+1,zy.v-1,a3,zy.n+1,c3,B3,zy.ps++[y]⟩,by show un-(zy.i+1)<un-zy.i;omega,sM,zow,hB3.gb,by show zy.i+1≤un;omega,?_,by show zy.v-1=_-_-((zy.i+1:Nat):Int);omega⟩
      show zy.ps++[y]=_++ups.reverse.take (zy.i+1)
      rw[hzp,List.take_add_one,List.getElem?_reverse zo,show ups.length-1-zy.i=un-1-zy.i by omega,hy7,List.append_assoc];rfl
     ·have hzyi:zy.i=un:=by simp at hc3;omega
      rw[hzyi,List.take_of_length_le (by simp;omega)] at hzp
      have hz2:GB tPtr F3 z.a z.n z.c z.B z.ps:=hz1.mono hF3
      refine AW.exit ?_
      skip
      have e1:preL (ts1++tks.reverse).reverse=preL tks++preL ts1.reverse:=by
       rw[List.reverse_append,List.reverse_reverse,preL_app]
      have e2:preL (us1++uks.reverse).reverse=preL uks++preL us1.reverse:=by
       rw[List.reverse_append,List.reverse_reverse,preL_app]
      have e3:(Tree.mk tr tt tks).pre=tr::preL tks:=rfl
      have e4:(Tree.mk tr ut uks).pre=tr::preL uks:=rfl
      rw[e3,e4] at hlen hlex
      rw[e3] at elenx
      refine⟨⟨_,_,_,z.B,z.ps,ts1++tks.reverse,_,_,_,zy.B,zy.ps,us1++uks.reverse⟩,?_,sM,zow,hz2,?_,hz,?_,?_,?_,?_⟩
      ·show (preL (ts1++tks.reverse).reverse).length<(preL s.X.reverse).length
       rw[e1,elenx];simp
      ·show ShL F3 z.ps (ts1++tks.reverse)
       rw[hzp1]
       exact ShL.app (hX1.mono (hF2.trans hF3)) (g3.mono (hF2.trans hF3)).rev
      ·show ShL F3 zy.ps (us1++uks.reverse)
       rw[hzp]
       exact ShL.app (hY1.mono (hF2.trans hF3)) (k3.mono (hF2.trans hF3)).rev
      ·show (preL (ts1++tks.reverse).reverse).length=(preL (us1++uks.reverse).reverse).length
       rw[e1,e2]
       simp only[List.cons_append,List.length_cons,List.length_append] at hlen ⊢
       omega
      ·show _↔lexLt (preL (ts1++tks.reverse).reverse) (preL (us1++uks.reverse).reverse)
       rw[hlex,e1,e2]
       exact lexLt_cancel [tr]
      ·show (preL (ts1++tks.reverse).reverse).length≤100000
       rw[e1]
       rw[elenx] at hsm0
       simp only[List.cons_append,List.length_cons] at hsm0
       omega
def keyAt(Q:List (Cand×Tree))(i:Nat):List Int:=match Q[i]? with
 | some x=>x.2.pre
 | none=>[]
def HeapN(Q:List (Cand×Tree))(n:Nat):Prop:=∀i,0<i→i<n→wle (keyAt Q ((i-1) / 2)) (keyAt Q i)
structure UpOk(Q:List (Cand×Tree))(j:Nat):Prop where
 one:∀k,0<k→k<Q.length→k≠j→wle (keyAt Q ((k-1) / 2)) (keyAt Q k)
 two:∀k,0<k→k<Q.length→(k-1) / 2=j→0<j→wle (keyAt Q ((j-1) / 2)) (keyAt Q k)
structure DownOk(Q:List (Cand×Tree))(j n:Nat):Prop where
 one:∀k,0<k→k<n→(k-1) / 2≠j→wle (keyAt Q ((k-1) / 2)) (keyAt Q k)
 two:∀k,0<k→k<n→(k-1) / 2=j→0<j→wle (keyAt Q ((j-1) / 2)) (keyAt Q k)
theorem keyAt_some{Q:List (Cand×Tree)}{i:Nat}{x:Cand×Tree}(h:Q[i]?=some x):keyAt Q i=x.2.pre:=by
 unfold keyAt;rw[h]
theorem keyAt_swap{Q:List (Cand×Tree)}{i j:Nat}{x y:Cand×Tree}(hi:Q[i]?=some x)(hj:Q[j]?=some y)(k:Nat):keyAt ((Q.set i y).set j x) k=if k=j then keyAt Q i else if k=i then keyAt Q j else keyAt Q k:=by
 have h1:=(gS hi).1
 have h2:=(gS hj).1
 unfold keyAt
 rw[List.getElem?_set,List.getElem?_set]
 by_cases e1:k=j
 ·subst e1
  simp[h2,hi]
 ·by_cases e2:k=i
  ·subst e2
   simp[h1,hj,e1,Ne.symm e1]
  ·simp[e1,e2,Ne.symm e1,Ne.symm e2]
theorem perm_swapQ{α:Type}{Q:List α}{i j:Nat}{x y:α}(hi:Q[i]?=some x)(hj:Q[j]?=some y):((Q.set i y).set j x).Perm Q:=by
 obtain⟨h1,rfl⟩:=gS hi
 obtain⟨h2,rfl⟩:=gS hj
 exact Go.Sort.perm_set_set Q i j h1 h2
theorem UpOk.stop{Q:List (Cand×Tree)}{j:Nat}(h:UpOk Q j)(hj:j=0∨wle (keyAt Q ((j-1) / 2)) (keyAt Q j)):HeapN Q Q.length:=fun i h1 h2=>by
 by_cases e:i=j
 ·subst e
  rcases hj with hj | hj
  ·omega
  ·exact hj
 ·exact h.one i h1 h2 e
theorem UpOk.step{Q:List (Cand×Tree)}{j:Nat}(h:UpOk Q j)(hj:0<j){x y:Cand×Tree}(hi:Q[(j-1) / 2]?=some x)(hy:Q[j]?=some y)(hlt:wlt (keyAt Q j) (keyAt Q ((j-1) / 2))):UpOk ((Q.set ((j-1) / 2) y).set j x) ((j-1) / 2):=by
 have sw:=keyAt_swap hi hy
 have hne:(j-1) / 2≠j:=by omega
 refine⟨fun k h1 h2 h3=>?_,fun k h1 h2 h3 h4=>?_⟩
 ·simp only[List.length_set] at h2
  rw[sw,sw]
  by_cases e1:k=j
  ·subst e1
   rw[if_neg hne,if_pos rfl,if_pos rfl]
   exact .inl hlt
  ·rw[if_neg e1 (c:=k=j),if_neg h3]
   by_cases e2:(k-1) / 2=j
   ·rw[if_pos e2]
    exact h.two k h1 h2 e2 hj
   ·rw[if_neg e2]
    by_cases e3:(k-1) / 2=(j-1) / 2
    ·rw[if_pos e3]
     have:=h.one k h1 h2 e1
     rw[e3] at this
     exact .inl (wlt_wle hlt this)
    ·rw[if_neg e3]
     exact h.one k h1 h2 e1
 ·simp only[List.length_set] at h2
  rw[sw,sw]
  have e0:((j-1) / 2-1) / 2≠j:=by omega
  have e1:((j-1) / 2-1) / 2≠(j-1) / 2:=by omega
  rw[if_neg e0,if_neg e1]
  have hjl:=(gS hy).1
  have hg:=h.one ((j-1) / 2) h4 zo hne
  by_cases e2:k=j
  ·rw[if_pos e2];exact hg
  ·rw[if_neg e2,if_neg zo]
   have:=h.one k h1 h2 e2
   rw[h3] at this
   exact wle_trans hg this
theorem DownOk.stop{Q:List (Cand×Tree)}{j n:Nat}(h:DownOk Q j n)(hj:∀k,0<k→k<n→(k-1) / 2=j→wle (keyAt Q j) (keyAt Q k)):HeapN Q n:=fun i h1 h2=>by
 by_cases e:(i-1) / 2=j
 ·rw[e];exact hj i h1 h2 e
 ·exact h.one i h1 h2 e
theorem DownOk.step{Q:List (Cand×Tree)}{i j n:Nat}(h:DownOk Q i n)(hn:n≤Q.length)(hj:0<j)(hjn:j<n)(hij:(j-1) / 2=i){x y:Cand×Tree}(hx:Q[i]?=some x)(hy:Q[j]?=some y)(hlt:wlt (keyAt Q j) (keyAt Q i))(hmin:∀k,0<k→k<n→(k-1) / 2=i→wle (keyAt Q j) (keyAt Q k)) :
  DownOk ((Q.set i y).set j x) j n:=by
 have sw:=keyAt_swap hx hy
 have hne:i≠j:=by omega
 refine⟨fun k h1 h2 h3=>?_,fun k h1 h2 h3 h4=>?_⟩
 ·rw[sw,sw]
  rw[if_neg h3]
  by_cases e1:k=j
  ·subst e1
   rw[if_pos hij,if_pos rfl]
   exact .inl hlt
  ·rw[if_neg e1 (c:=k=j)]
   by_cases e2:(k-1) / 2=i
   ·rw[if_pos e2,if_neg zo]
    exact hmin k h1 h2 e2
   ·rw[if_neg e2]
    by_cases e3:k=i
    ·subst e3
     rw[if_pos rfl]
     have:=h.two j hj hjn hij h1
     exact this
    ·rw[if_neg e3]
     exact h.one k h1 h2 e2
 ·rw[sw,sw,hij,if_neg zo,if_pos rfl,if_neg zo,if_neg zo]
  have:=h.one k h1 h2 zo
  rw[h3] at this
  exact this
theorem heap_first{Q:List (Cand×Tree)}(h:HeapN Q Q.length):∀i,i<Q.length→wle (keyAt Q 0) (keyAt Q i):=by
 intro i
 induction i using Nat.strongRecOn with
 | _ i ih=>
  intro hi
  by_cases e:i=0
  ·subst e;exact wle_refl _
  ·exact wle_trans (ih ((i-1) / 2) zo zo) (h i zo hi)
theorem heap_min{Q:List (Cand×Tree)}(h:HeapN Q Q.length){x y:Cand×Tree}(hx:Q[0]?=some x)(hy:y∈Q):tle x.2 y.2:=by
 obtain⟨i,hi⟩:=List.mem_iff_getElem?.1 hy
 have:=heap_first h i (gS hi).1
 rw[keyAt_some hx,keyAt_some hi] at this
 exact this
theorem keyAt_take{Q:List (Cand×Tree)}{n i:Nat}(h:i<n):keyAt (Q.take n) i=keyAt Q i:=by
 unfold keyAt
 rw[List.getElem?_take,if_pos h]
theorem keyAt_app{Q:List (Cand×Tree)}{x:Cand×Tree}{i:Nat}(h:i<Q.length):keyAt (Q++[x]) i=keyAt Q i:=by
 unfold keyAt
 rw[List.getElem?_append_left h]
theorem HeapN.push{Q:List (Cand×Tree)}(h:HeapN Q Q.length)(x:Cand×Tree):UpOk (Q++[x]) Q.length:=by
 refine⟨fun k h1 h2 h3=>?_,fun k h1 h2 h3 h4=>?_⟩
 ·simp at h2
  rw[keyAt_app zo,keyAt_app zo]
  exact h k h1 zo
 ·simp at h2;omega
theorem HeapN.pop{Q:List (Cand×Tree)}(h:HeapN Q Q.length){n:Nat}(hn:n+1=Q.length){x y:Cand×Tree}(hx:Q[0]?=some x)(hy:Q[n]?=some y):DownOk ((Q.set 0 y).set n x) 0 n:=by
 have sw:=keyAt_swap hx hy
 refine⟨fun k h1 h2 h3=>?_,fun k h1 h2 h3 h4=>by omega⟩
 rw[sw,sw,if_neg zo,if_neg h3,if_neg zo,if_neg zo]
 exact h k h1 zo
theorem HeapN.take{Q:List (Cand×Tree)}{n:Nat}(h:HeapN Q n)(hn:n≤Q.length):HeapN (Q.take n) (Q.take n).length:=fun i h1 h2=>by
 rw[List.length_take] at h2
 rw[keyAt_take zo,keyAt_take zo]
 exact h i h1 zo
def methK(C:Ctx)(t:Nat)(name:String):Option (FuncId×Bool):=match C.info t with
 | some i=>match i.methods.find? (·.name==name) with
  | some m=>bif m.path.isEmpty then m.func else none
  | none=>none
 | none=>none
theorem methodA_ptr{t e:Nat}{r:Row}{name:String}{f:FuncId}{v:Value}(hm:methK CC t name=some (f,true))(hr:rowOf rows t=some r)(hd:r.d=.pointer e)(h:Heap):methodA CC h (.iface t v) name=some (f,v):=by
 have hu:=und_pointer hT hr hd
 unfold methK at hm
 cases hi:CC.info t with
 | none=>rw[hi] at hm;cases hm
 | some i=>
  rw[hi] at hm
  simp only at hm
  unfold methodA
  simp only[hi,hu]
  cases hf:i.methods.find? (·.name==name) with
  | none=>rw[hf] at hm;cases hm
  | some m=>
   rw[hf] at hm
   simp only at hm
   cases hp:m.path.isEmpty with
   | false=>rw[hp] at hm;cases hm
   | true=>
    rw[hp] at hm
    simp only[cond_true] at hm
    simp only[hp,cond_true,hm]
theorem methodA_val{t e:Nat}{r:Row}{name:String}{f:FuncId}{v x:Value}{h:Heap}(hm:methK CC t name=some (f,false))(hr:rowOf rows t=some r)(hd:r.d=.pointer e)(hl:loadA CC h e v=some x):methodA CC h (.iface t v) name=some (f,x):=by
 have hu:=und_pointer hT hr hd
 unfold methK at hm
 cases hi:CC.info t with
 | none=>rw[hi] at hm;cases hm
 | some i=>
  rw[hi] at hm
  simp only at hm
  unfold methodA
  simp only[hi,hu]
  cases hf:i.methods.find? (·.name==name) with
  | none=>rw[hf] at hm;cases hm
  | some m=>
   rw[hf] at hm
   simp only at hm
   cases hp:m.path.isEmpty with
   | false=>rw[hp] at hm;cases hm
   | true=>
    rw[hp] at hm
    simp only[cond_true] at hm
    simp only[hp,cond_true,hm,hl]
    rfl
theorem meth_len:methK CC 159 "Len" = some (183,false):=by decide +kernel
theorem meth_less:methK CC 159 "Less" = some (184,false):=by decide +kernel
theorem meth_swap:methK CC 159 "Swap" = some (185,false):=by decide +kernel
theorem meth_push:methK CC 159 "Push" = some (188,true):=by decide +kernel
theorem meth_pop:methK CC 159 "Pop" = some (187,true):=by decide +kernel
def candV(c:Cand)(t:Value):List Value:=[.int .i64 c.node,.int .i64 c.pack,.int .i64 c.r0,.int .i64 c.r1,.int .i64 c.r2,.int .i64 c.r3,t]
def tCQ:Ty (Cand×Tree) where
 size:=7
 rel:=fun F l x=>∃p,l=candV x.1 (.pointer (some ⟨p,0,none⟩))∧Sh F p x.2∧x.2.pre.length≤100000
 len:=fun _ _ _ h=>by obtain⟨p,rfl,_⟩:=h;rfl
 one:=fun _ _ _ h=>by obtain⟨p,rfl,_⟩:=h;rfl
 mono:=fun _ _ _ _ hF h=>by obtain⟨p,e,h,hb⟩:=h;exact⟨p,e,h.mono hF,hb⟩
structure LB where
 li:Nat
 x0:Value
 x1:Value
 x2:Value
 x3:Value
 x4:Value
 x5:Value
 ok:one x0=true∧one x1=true∧one x2=true∧one x3=true∧one x4=true∧one x5=true
def lCells(L:LB)(a:Option Addr)(n c:Nat):List Value:=[L.x0,L.x1,L.x2,L.x3,L.x4,L.x5,.slice a n c]
def lB(L:LB)(a:Option Addr)(n c:Nat)(B:List (Nat×Blk)):List (Nat×Blk):=(L.li,.cells false (lCells L a n c))::B
def qPtr(L:LB):Value:=.pointer (some ⟨L.li,6,none⟩)
def qI(L:LB):Value:=.iface 159 (qPtr L)
theorem qlen_spec(F:Frz)(a:Option Addr)(n c:Nat):Abs.Spec CC 183 [.slice a n c] F [] fun _ v o=>o=[]∧v=.int .i64 (n:Nat):=by
 refine Abs.Spec.fn (n:=5) Tryz.func183 rfl rfl fun own=>?_
 refine zB4 ?_
 exact AW.ret ⟨_,[],⟨_,_,rfl,rfl,rfl⟩,zsb,rfl,rfl⟩
theorem qless_spec(G:Frz){a:Option Addr}{n c:Nat}{Q:List (Cand×Tree)}(hq:Arr tCQ G a n c Q){i k:Nat}{x y:Cand×Tree}(hi:Q[i]?=some x)(hk:Q[k]?=some y) :
  Abs.Spec CC 184 [.slice a n c,.int .i64 (i:Nat),.int .i64 (k:Nat)] G [] fun _ v o=>o=[]∧∃b,v=.bool b∧(b=true↔tlt x.2 y.2):=by
 have hql:=hq.len
 have hi1:=(gS hi).1
 have hk1:=(gS hk).1
 refine Abs.Spec.fn (n:=19) Tryz.func184 rfl rfl fun own=>?_
 refine zB4 ?_
 refine WT.idxL hT hq Z Z Z Z Z Z Z Z Z zo (fun z hz b7 off7 ro7 cs7 lx7 hb7 hp7 hrel7=>?_)
 rw[hi] at hz;cases hz
 obtain⟨p,rfl,hsh,hbd⟩:=hrel7
 unfold candV at hp7
 refine zB4 ?_
 refine WT.idxL hT hq Z Z Z Z Z Z Z Z Z zo (fun z hz b8 off8 ro8 cs8 lx8 hb8 hp8 hrel8=>?_)
 rw[hk] at hz;cases hz
 obtain⟨q,rfl,hsh2,hbd2⟩:=hrel8
 unfold candV at hp8
 clear hp7 hb7
 refine zB4 ?_
 refine WT.callV Tryz.func186 Z Z Z Z Z Z (tcompare_spec _ hsh hsh2 hbd hbd2) (fun v hv=>?_)
 obtain⟨z,rfl,hz⟩:=hv
 refine zB4 ?_
 exact AW.ret ⟨_,[],⟨_,_,rfl,rfl,rfl⟩,zsb,rfl,_,rfl,by simpa using hz⟩
theorem lB_own(L:LB)(a:Option Addr)(n c:Nat)(B:List (Nat×Blk))(own:Own):OwnLe ([(L.li,.cells false (lCells L a n c))]::B::own) (lB L a n c B::own):=OwnLe.flat (List.Perm.of_eq (by simp[lB]))
theorem lB_own'(L:LB)(a:Option Addr)(n c:Nat)(B:List (Nat×Blk))(own:Own):OwnLe (lB L a n c B::own) ([(L.li,.cells false (lCells L a n c))]::B::own):=OwnLe.flat (List.Perm.of_eq (by simp[lB]))
theorem qswap_spec(F:Frz)(L:LB){a:Option Addr}{n c:Nat}{B:List (Nat×Blk)}{Q:List (Cand×Tree)}(hq:GB tCQ F a n c B Q){i k:Nat}{x y:Cand×Tree}(hi:Q[i]?=some x)(hk:Q[k]?=some y) :
  Abs.Spec CC 185 [.slice a n c,.int .i64 (i:Nat),.int .i64 (k:Nat)] F [lB L a n c B] fun F' v o=>∃B',o=[B']∧∃B2,B'=lB L a n c B2∧GB tCQ F' a n c B2 ((Q.set i y).set k x):=by
 have hql:=hq.len
 have hi1:=(gS hi).1
 have hk1:=(gS hk).1
 refine Abs.Spec.fn (n:=20) Tryz.func185 rfl rfl fun own=>?_
 refine AW.le (lB_own _ _ _ _ _ _) ?_
 refine zB4 ?_
 refine WT.gidx hT hq Z Z Z Z Z Z Z Z Z zo (fun b1 hb1=>?_)
 refine WT.gldS hT 1 hq hb1 hk Z Z Z Z Z Z (fun z hz=>hz) Z Z Z (fun l hl=>?_)
 refine zB4 ?_
 refine WT.gidx hT hq Z Z Z Z Z Z Z Z Z zo (fun b2 hb2=>?_)
 refine WT.gldS hT 1 hq hb2 hi Z Z Z Z Z Z (fun z hz=>hz) Z Z Z (fun l2 hl2=>?_)
 skip
 refine WT.gidx hT hq Z Z Z Z Z Z Z Z Z zo (fun b3 hb3=>?_)
 refine WT.gst (y:=y) hT 1 hq hb3 hi Z Z Z Z Z hl Z (fun _=>rfl) Z (fun B6 hB6=>?_)
 skip
 obtain⟨z,hz⟩:∃z,(Q.set i y)[k]?=some z:=⟨_,gE (by simp;omega)⟩
 refine WT.gidx hT hB6 Z Z Z Z Z Z Z Z Z zo (fun b4 hb4=>?_)
 refine WT.gst (y:=x) hT 1 hB6 hb4 hz Z Z Z Z Z hl2 Z (fun _=>rfl) Z (fun B7 hB7=>?_)
 refine WT.le (lB_own' _ _ _ _ _ _) ?_
 refine zB4 ?_
 exact⟨_,[_],rfl,zsb,_,rfl,B7,rfl,hB7⟩
theorem qpop_spec(F:Frz)(L:LB){a:Option Addr}{n c:Nat}{B:List (Nat×Blk)}{Q:List (Cand×Tree)}(hq:GB tCQ F a (n+1) c B Q)(hn:n≤1000000000000){x:Cand×Tree}(hx:Q[n]?=some x) :
  Abs.Spec CC 187 [qPtr L] F [lB L a (n+1) c B] fun F' v o=>∃B',o=[B']∧B'=lB L a n c B∧∃l,v=.iface 156 (.agg ⟨l⟩)∧tCQ.rel F' l x:=by
 have hql:=hq.len
 unfold lB lCells qPtr
 refine Abs.Spec.fn (n:=23) Tryz.func187 rfl rfl fun own=>?_
 refine AW.le (lB_own L a (n+1) c B own) ?_
 unfold lCells
 refine zC4 ?_
 refine WT.know (v':=.int .i64 (n:Nat)) 11 Z (by simp) ?_
 refine WT.gidx hT hq Z Z Z Z Z Z Z Z Z zo (fun b1 hb1=>?_)
 refine WT.gldS hT 1 hq hb1 hx Z Z Z Z Z Z (fun z hz=>hz) Z Z Z (fun l hl=>?_)
 obtain⟨p,rfl,hsh,hbd⟩:=hl
 unfold candV
 skip
 refine WT.allocT hT Z Z Z Z Z Z (fun i4 hi4=>?_)
 refine zC4 ?_
 refine WT.know (v':=.int .i64 (n:Nat)) 18 Z (by simp) ?_
 refine WT.sliceG hT hq Z Z Z Z Z Z Z Z Z (show n≤n+1 by omega) ?_
 refine zB4 ?_
 refine WT.ifaceT hT Z Z Z Z Z Z ?_
 refine zB4 ?_
 refine AW.le (OwnLe.skip _ (lB_own' L a n c B own)) ?_
 exact AW.ret ⟨_,[_],⟨_,_,rfl,rfl,rfl⟩,zsb,_,rfl,rfl,_,rfl,p,rfl,hsh,hbd⟩
theorem qpush_spec(F:Frz)(L:LB){a:Option Addr}{n c:Nat}{B:List (Nat×Blk)}{Q:List (Cand×Tree)}(hq:GB tCQ F a n c B Q)(hn:n≤1000000000000){x:Cand×Tree}{l:List Value}(hx:tCQ.rel F l x) :
  Abs.Spec CC 188 [qPtr L,.iface 156 (.agg ⟨l⟩)] F [lB L a n c B] fun F' v o=>∃B',o=[B']∧∃a' c' B2,B'=lB L a' (n+1) c' B2∧GB tCQ F' a' (n+1) c' B2 (Q++[x]):=by
 have hql:=hq.len
 have hx0:=hx
 obtain⟨p,rfl,hsh,hbd⟩:=hx
 unfold lB lCells qPtr
 refine Abs.Spec.fn (n:=13) Tryz.func188 rfl rfl fun own=>?_
 refine AW.le (lB_own L a n c B own) ?_
 unfold lCells
 refine AW.draw (ps:=[(3,6)]) Z Z ?_
 refine zB4 ?_
 refine WT.assertT hT Z Z Z Z Z Z ?_
 unfold candV
 skip
 refine WT.buildT hT Z Z Z Z Z Z Z Z Z Z Z Z Z Z (fun i9 hi9=>?_)
 refine WT.appendG (ys:=[x]) hT 2 hq Z (fun _=>rfl) Z Z Z Z Z Z Z Z Z Z Z (fun h0 s0=>news_own hT s0 0 Z Z Z Z) (Cells.single (R:=tCQ) (x:=x) hx0) Z (by decide) zom (fun a3 c3 B3 hB3=>?_)
 refine ze hT Z Z Z Z Z ?_
 refine zs hT 1 0 Z Z Z Z Z Z Z Z Z Z Z Z ?_
 refine WT.le (OwnLe.skip _ (lB_own' L a3 (n+1) c3 B3 own)) ?_
 refine zB4 ?_
 refine⟨zrC,?_⟩
 exact⟨_,[_],rfl,zsb,_,rfl,a3,c3,B3,rfl,hB3.gb⟩
structure UpS where
 j:Nat
 B:List (Nat×Blk)
 Q:List (Cand×Tree)
theorem lessP{L:LB}{F:Frz}{a:Option Addr}{n c:Nat}{B:List (Nat×Blk)}{Q:List (Cand×Tree)}(hq:GB tCQ F a n c B Q){i k:Nat}{x y:Cand×Tree}(hi:Q[i]?=some x)(hk:Q[k]?=some y)(G:Frz)(hG:Frz.le F G)(hB:∀i b,(i,b)∈lB L a n c B→G i=some b) :
  Abs.Spec CC 184 [.slice a n c,.int .i64 (i:Nat),.int .i64 (k:Nat)] G [] fun _ v o=>o=[]∧∃b,v=.bool b∧(b=true↔tlt x.2 y.2):=
 qless_spec G (hq.arr hG fun i b hm=>hB i b (List.mem_cons_of_mem _ hm)) hi hk
theorem hup_spec(F:Frz)(L:LB){a:Option Addr}{n c:Nat}{B:List (Nat×Blk)}{Q:List (Cand×Tree)}(hq:GB tCQ F a n c B Q)(hn:n≤1000000000000){j:Nat}(hj:j<n)(hu:UpOk Q j) :
  Abs.Spec CC 133 [qI L,.int .i64 (j:Nat)] F [lB L a n c B] fun F' v o=>∃B',o=[B']∧∃B2 Q2,B'=lB L a n c B2∧GB tCQ F' a n c B2 Q2∧Q2.Perm Q∧HeapN Q2 Q2.length:=by
 have hql:=hq.len
 unfold qI qPtr
 refine Abs.Spec.fn (n:=23) Tryz.func133 rfl rfl fun own=>?_
 refine AW.block ?_
 refine AW.loopR (S:=UpS) (fun s=>[(1,.int .i64 (s.j:Nat))]) (fun s=>lB L a n c s.B::own) (fun s G=>GB tCQ G a n c s.B s.Q∧s.Q.Perm Q∧s.j<n∧UpOk s.Q s.j) (fun s=>s.j) ⟨j,B,Q⟩
  sM oR ⟨hq,List.Perm.refl _,hj,hu⟩ ?_
 intro s F1 hF1 hP
 obtain⟨hb,hperm,hj1,hu1⟩:=hP
 have hbl:=hb.len
 rcases Nat.eq_zero_or_pos s.j with h0 | h0
 ·rw[h0] at hu1 ⊢
  skip
  refine AW.block ?_
  refine zB4 ?_
  refine WT.quoT (x:=-1) (y:=2) Z Z Z Z Z Z (by decide) ?_
  refine zB4 ?_
  refine AW.cond Z (fun _=>?_) (fun h=>(by cases h))
  refine AW.exit ?_
  skip
  exact⟨_,[_],rfl,zsb,_,rfl,s.B,s.Q,rfl,hb,hperm,hu1.stop (.inl rfl)⟩
 ·obtain⟨x,hx⟩:∃x,s.Q[(s.j-1) / 2]?=some x:=⟨_,gE zo⟩
  obtain⟨y,hy⟩:∃y,s.Q[s.j]?=some y:=⟨_,gE zo⟩
  skip
  refine AW.block ?_
  refine zC4 ?_
  refine WT.quoL 2 Z Z Z Z Z Z (by decide) zo ?_
  refine zC4 ?_
  refine WT.know (v':=.bool false) 11 Z (by congr 1;simp;omega) ?_
  refine zC4 ?_
  refine WT.invokeLend 0 Tryz.func184 Z Z Z Z Z Z Z (fun h s0=>methodA_val meth_less Z Z (loadA_cells (s0.has (p:=0) Z me) (readT_ok hT rfl))) Z (fun G hG hBG=>lessP hb hy hx G hG hBG) (fun v hv=>?_)
  obtain⟨b,rfl,hlt⟩:=hv
  refine zC4 ?_
  refine AW.cond Z (fun hc=>?_) (fun hc=>?_)
  ·have hb0:¬tlt y.2 x.2:=fun h=>by rw[hlt.2 h] at hc;cases hc
   refine AW.exit ?_
   skip
   refine⟨_,[_],rfl,zsb,_,rfl,s.B,s.Q,rfl,hb,hperm,hu1.stop (.inr ?_)⟩
   rw[keyAt_some hx,keyAt_some hy]
   exact(wle_total _ _).resolve_right hb0
  ·have hb0:tlt y.2 x.2:=hlt.1 (by simpa using hc)
   refine zC4 ?_
   refine WT.invoke1F 0 Tryz.func185 Z Z Z Z Z Z Z (fun h s0=>methodA_val meth_swap Z Z (loadA_cells (s0.has (p:=0) Z me) (readT_ok hT rfl))) Z (fun _=>rfl) (qswap_spec F1 L hb hx hy) (fun F2 v B2 hF2 hv=>?_)
   obtain⟨B3,rfl,hB3⟩:=hv
   refine zC4 ?_
   refine⟨⟨(s.j-1) / 2,B3,(s.Q.set ((s.j-1) / 2) y).set s.j x⟩,by show (s.j-1) / 2<s.j;omega,sM,zow,hB3,(perm_swapQ hx hy).trans hperm,by show (s.j-1) / 2<n;omega,hu1.step h0 hx hy (by rw[keyAt_some hx,keyAt_some hy];exact hb0)⟩
theorem hdown_spec(F:Frz)(L:LB){a:Option Addr}{n c m:Nat}{B:List (Nat×Blk)}{Q:List (Cand×Tree)}(hq:GB tCQ F a n c B Q)(hn:n≤1000000000000)(hm:m≤n)(hu:DownOk Q 0 m) :
  Abs.Spec CC 103 [qI L,.int .i64 0,.int .i64 (m:Nat)] F [lB L a n c B] fun F' v o=>∃B',o=[B']∧∃B2 Q2,B'=lB L a n c B2∧GB tCQ F' a n c B2 Q2∧Q2.Perm Q∧HeapN Q2 m∧∀i,m≤i→Q2[i]?=Q[i]?:=by
 have hql:=hq.len
 unfold qI qPtr
 refine Abs.Spec.fn (n:=48) Tryz.func103 rfl rfl fun own=>?_
 refine zB4 ?_
 refine AW.block ?_
 refine AW.loopR (S:=UpS) (fun s=>[(7,.int .i64 (s.j:Nat))]) (fun s=>lB L a n c s.B::own) (fun s G=>GB tCQ G a n c s.B s.Q∧s.Q.Perm Q∧(s.j<m∨s.j=0)∧DownOk s.Q s.j m∧∀i,m≤i→s.Q[i]?=Q[i]?) (fun s=>m-s.j) ⟨0,B,Q⟩
  sM oR ⟨hq,List.Perm.refl _,.inr rfl,hu,fun _ _=>rfl⟩ ?_
 intro s F1 hF1 hP
 obtain⟨hb,hperm,hj1,hu1,hsame⟩:=hP
 have hbl:=hb.len
 skip
 refine AW.block ?_
 refine zC4 ?_
 refine WT.split 18 Z (fun hc=>?_) (fun hc=>?_)
 ·have hc:m≤2*s.j+1:=by simp at hc;omega
  refine zC4 ?_
  refine AW.cond Z (fun _=>?_) (fun h=>(by cases h))
  refine AW.exit ?_
  refine zC4 ?_
  refine AW.ret ⟨_,[_],⟨_,_,rfl,rfl,rfl⟩,zsb,_,rfl,s.B,s.Q,rfl,hb,hperm,hu1.stop (fun k h1 h2 h3=>by omega),hsame⟩
 have hc:2*s.j+1<m:=by simp at hc;omega
 have hcl:2*s.j+1<s.Q.length:=by omega
 obtain⟨x,hx⟩:∃x,s.Q[s.j]?=some x:=⟨_,gE zo⟩
 obtain⟨y1,hy1⟩:∃y,s.Q[2*s.j+1]?=some y:=⟨_,gE zo⟩
 refine zC4 ?_
 refine AW.cond Z (fun h=>?_) (fun _=>?_)
 ·exfalso;simp at h;omega
 refine zC4 ?_
 refine WT.split 28 Z (fun hr=>?_) (fun hr=>?_)
 ·have hr:2*s.j+2<m:=by simp at hr;omega
  obtain⟨y2,hy2⟩:∃y,s.Q[2*s.j+1+1]?=some y:=⟨_,gE zo⟩
  refine zC4 ?_
  refine WT.invokeLend 0 Tryz.func184 Z Z Z Z Z Z Z (fun h s0=>methodA_val meth_less Z Z (loadA_cells (s0.has (p:=0) Z me) (readT_ok hT rfl))) Z (fun G hG hBG=>lessP hb hy2 hy1 G hG hBG) (fun v hv=>?_)
  obtain⟨b,rfl,hlt⟩:=hv
  refine zC4 ?_
  refine AW.cond Z (fun hd=>?_) (fun hd=>?_)
  ·have hlt:=hlt.1 hd
   have hmin:∀k,0<k→k<m→(k-1) / 2=s.j→wle (keyAt s.Q (2*s.j+1+1)) (keyAt s.Q k):=fun k h1 h2 h3=>by
    have:k=2*s.j+1∨k=2*s.j+1+1:=by omega
    rcases this with rfl | rfl
    ·rw[keyAt_some hy2,keyAt_some hy1];exact .inl hlt
    ·exact wle_refl _
   refine zC4 ?_
   refine WT.invokeLend 0 Tryz.func184 Z Z Z Z Z Z Z (fun h s0=>methodA_val meth_less Z Z (loadA_cells (s0.has (p:=0) Z me) (readT_ok hT rfl))) Z (fun G hG hBG=>lessP hb hy2 hx G hG hBG) (fun v hv=>?_)
   obtain⟨b2,rfl,hlt2⟩:=hv
   refine zC4 ?_
   refine AW.cond Z (fun hd=>?_) (fun hd=>?_)
   ·have hb0:¬tlt y2.2 x.2:=fun h=>by rw[hlt2.2 h] at hd;cases hd
    refine AW.exit ?_
    refine zC4 ?_
    refine AW.ret ⟨_,[_],⟨_,_,rfl,rfl,rfl⟩,zsb,_,rfl,s.B,s.Q,rfl,hb,hperm,hu1.stop (fun k h1 h2 h3=>?_),hsame⟩
    refine wle_trans ?_ (hmin k h1 h2 h3)
    rw[keyAt_some hx,keyAt_some hy2]
    exact(wle_total _ _).resolve_right hb0
   ·have hb0:tlt y2.2 x.2:=hlt2.1 (by simpa using hd)
    refine zC4 ?_
    refine WT.invoke1F 0 Tryz.func185 Z Z Z Z Z Z Z (fun h s0=>methodA_val meth_swap Z Z (loadA_cells (s0.has (p:=0) Z me) (readT_ok hT rfl))) Z (fun _=>rfl) (qswap_spec F1 L hb hx hy2) (fun F2 v B2 hF2 hv=>?_)
    obtain⟨B3,rfl,hB3⟩:=hv
    refine zC4 ?_
    refine⟨⟨2*s.j+1+1,B3,(s.Q.set s.j y2).set (2*s.j+1+1) x⟩,by show m-(2*s.j+1+1)<m-s.j;omega,sM,zow,hB3,(perm_swapQ hx hy2).trans hperm,.inl (by show 2*s.j+1+1<m;omega),hu1.step zo zo zo zo hx hy2 (by rw[keyAt_some hx,keyAt_some hy2];exact hb0) hmin,fun i hi=>?_⟩
    show ((s.Q.set s.j y2).set (2*s.j+1+1) x)[i]?=Q[i]?
    rw[List.getElem?_set_ne zo,List.getElem?_set_ne zo]
    exact hsame i hi
  ·have hlt:¬tlt y2.2 y1.2:=fun h=>by rw[hlt.2 h] at hd;cases hd
   have hmin:∀k,0<k→k<m→(k-1) / 2=s.j→wle (keyAt s.Q (2*s.j+1)) (keyAt s.Q k):=fun k h1 h2 h3=>by
    have:k=2*s.j+1∨k=2*s.j+1+1:=by omega
    rcases this with rfl | rfl
    ·exact wle_refl _
    ·rw[keyAt_some hy2,keyAt_some hy1];exact(wle_total _ _).resolve_right hlt
   refine zC4 ?_
   refine WT.invokeLend 0 Tryz.func184 Z Z Z Z Z Z Z (fun h s0=>methodA_val meth_less Z Z (loadA_cells (s0.has (p:=0) Z me) (readT_ok hT rfl))) Z (fun G hG hBG=>lessP hb hy1 hx G hG hBG) (fun v hv=>?_)
   obtain⟨b2,rfl,hlt2⟩:=hv
   refine zC4 ?_
   refine AW.cond Z (fun hd=>?_) (fun hd=>?_)
   ·have hb0:¬tlt y1.2 x.2:=fun h=>by rw[hlt2.2 h] at hd;cases hd
    refine AW.exit ?_
    refine zC4 ?_
    refine AW.ret ⟨_,[_],⟨_,_,rfl,rfl,rfl⟩,zsb,_,rfl,s.B,s.Q,rfl,hb,hperm,hu1.stop (fun k h1 h2 h3=>?_),hsame⟩
    refine wle_trans ?_ (hmin k h1 h2 h3)
    rw[keyAt_some hx,keyAt_some hy1]
    exact(wle_total _ _).resolve_right hb0
   ·have hb0:tlt y1.2 x.2:=hlt2.1 (by simpa using hd)
    refine zC4 ?_
    refine WT.invoke1F 0 Tryz.func185 Z Z Z Z Z Z Z (fun h s0=>methodA_val meth_swap Z Z (loadA_cells (s0.has (p:=0) Z me) (readT_ok hT rfl))) Z (fun _=>rfl) (qswap_spec F1 L hb hx hy1) (fun F2 v B2 hF2 hv=>?_)
    obtain⟨B3,rfl,hB3⟩:=hv
    refine zC4 ?_
    refine⟨⟨2*s.j+1,B3,(s.Q.set s.j y1).set (2*s.j+1) x⟩,by show m-(2*s.j+1)<m-s.j;omega,sM,zow,hB3,(perm_swapQ hx hy1).trans hperm,.inl (by show 2*s.j+1<m;omega),hu1.step zo zo zo zo hx hy1 (by rw[keyAt_some hx,keyAt_some hy1];exact hb0) hmin,fun i hi=>?_⟩
    show ((s.Q.set s.j y1).set (2*s.j+1) x)[i]?=Q[i]?
    rw[List.getElem?_set_ne zo,List.getElem?_set_ne zo]
    exact hsame i hi
 ·have hr:m≤2*s.j+2:=by simp at hr;omega
  have hmin:∀k,0<k→k<m→(k-1) / 2=s.j→wle (keyAt s.Q (2*s.j+1)) (keyAt s.Q k):=fun k h1 h2 h3=>by
   obtain rfl:k=2*s.j+1:=by omega
   exact wle_refl _
  refine zC4 ?_
  refine AW.cond Z (fun h=>(by cases h)) (fun _=>?_)
  refine zC4 ?_
  refine WT.invokeLend 0 Tryz.func184 Z Z Z Z Z Z Z (fun h s0=>methodA_val meth_less Z Z (loadA_cells (s0.has (p:=0) Z me) (readT_ok hT rfl))) Z (fun G hG hBG=>lessP hb hy1 hx G hG hBG) (fun v hv=>?_)
  obtain⟨b2,rfl,hlt2⟩:=hv
  refine zC4 ?_
  refine AW.cond Z (fun hd=>?_) (fun hd=>?_)
  ·have hb0:¬tlt y1.2 x.2:=fun h=>by rw[hlt2.2 h] at hd;cases hd
   refine AW.exit ?_
   refine zC4 ?_
   refine AW.ret ⟨_,[_],⟨_,_,rfl,rfl,rfl⟩,zsb,_,rfl,s.B,s.Q,rfl,hb,hperm,hu1.stop (fun k h1 h2 h3=>?_),hsame⟩
   refine wle_trans ?_ (hmin k h1 h2 h3)
   rw[keyAt_some hx,keyAt_some hy1]
   exact(wle_total _ _).resolve_right hb0
  ·have hb0:tlt y1.2 x.2:=hlt2.1 (by simpa using hd)
   refine zC4 ?_
   refine WT.invoke1F 0 Tryz.func185 Z Z Z Z Z Z Z (fun h s0=>methodA_val meth_swap Z Z (loadA_cells (s0.has (p:=0) Z me) (readT_ok hT rfl))) Z (fun _=>rfl) (qswap_spec F1 L hb hx hy1) (fun F2 v B2 hF2 hv=>?_)
   obtain⟨B3,rfl,hB3⟩:=hv
   refine zC4 ?_
   refine⟨⟨2*s.j+1,B3,(s.Q.set s.j y1).set (2*s.j+1) x⟩,by show m-(2*s.j+1)<m-s.j;omega,sM,zow,hB3,(perm_swapQ hx hy1).trans hperm,.inl (by show 2*s.j+1<m;omega),hu1.step zo zo zo zo hx hy1 (by rw[keyAt_some hx,keyAt_some hy1];exact hb0) hmin,fun i hi=>?_⟩
   show ((s.Q.set s.j y1).set (2*s.j+1) x)[i]?=Q[i]?
   rw[List.getElem?_set_ne zo,List.getElem?_set_ne zo]
   exact hsame i hi
theorem hpush_spec(F:Frz)(L:LB){a:Option Addr}{n c:Nat}{B:List (Nat×Blk)}{Q:List (Cand×Tree)}(hq:GB tCQ F a n c B Q)(hn:n≤900000000000)(hh:HeapN Q Q.length){x:Cand×Tree}{l:List Value}(hx:tCQ.rel F l x) :
  Abs.Spec CC 122 [qI L,.iface 156 (.agg ⟨l⟩)] F [lB L a n c B] fun F' v o=>∃B',o=[B']∧∃a' c' B2 Q2,B'=lB L a' (n+1) c' B2∧GB tCQ F' a' (n+1) c' B2 Q2∧Q2.Perm (Q++[x])∧HeapN Q2 Q2.length:=by
 have hql:=hq.len
 unfold qI qPtr
 refine Abs.Spec.fn (n:=12) Tryz.func122 rfl rfl fun own=>?_
 refine zB4 ?_
 refine WT.invoke1F 0 Tryz.func188 Z Z Z Z Z Z Z (fun h s0=>methodA_ptr meth_push Z Z h) Z (fun _=>rfl) (qpush_spec F L hq zo hx) (fun F2 v B2 hF2 hv=>?_)
 obtain⟨a',c',B3,rfl,hB3⟩:=hv
 refine zB4 ?_
 refine WT.invokeLend (P:=fun v=>v=.int .i64 ((n+1:Nat):Int)) 0 Tryz.func183 Z Z Z Z Z Z Z (fun h s0=>methodA_val meth_len Z Z (loadA_cells (s0.has (p:=0) Z me) (readT_ok hT rfl))) Z (fun G hG hBG=>qlen_spec G a' (n+1) c') (fun v hv=>?_)
 subst hv
 refine zB4 ?_
 refine WT.know (v':=.int .i64 (n:Nat)) 10 Z (by congr 1;omega) ?_
 refine WT.call1F 0 Tryz.func133 Z Z Z Z Z Z Z (fun _=>rfl) (hup_spec F2 L hB3 zo (j:=n) zo (by rw[hql];exact hh.push x)) (fun F3 v B4 hF3 hv=>?_)
 obtain⟨B5,Q2,rfl,hB5,hp,hh2⟩:=hv
 refine zB4 ?_
 exact⟨_,[_],rfl,zsb,_,rfl,a',c',B5,Q2,rfl,hB5,hp,hh2⟩
theorem hpop_spec(F:Frz)(L:LB){a:Option Addr}{n c:Nat}{B:List (Nat×Blk)}{Q:List (Cand×Tree)}(hq:GB tCQ F a (n+1) c B Q)(hn:n≤900000000000)(hh:HeapN Q Q.length) :
  Abs.Spec CC 72 [qI L] F [lB L a (n+1) c B] fun F' v o=>∃B',o=[B']∧∃B2 Q2 x l,B'=lB L a n c B2∧GB tCQ F' a n c B2 Q2∧Q.Perm (x::Q2)∧HeapN Q2 Q2.length∧(∀y∈Q2,tle x.2 y.2)∧v=.iface 156 (.agg ⟨l⟩)∧tCQ.rel F' l x:=by
 have hql:=hq.len
 obtain⟨x,hx⟩:∃x,Q[0]?=some x:=⟨_,gE zo⟩
 obtain⟨y,hy⟩:∃y,Q[n]?=some y:=⟨_,gE zo⟩
 unfold qI qPtr
 refine Abs.Spec.fn (n:=15) Tryz.func72 rfl rfl fun own=>?_
 refine zB4 ?_
 refine WT.invokeLend (P:=fun v=>v=.int .i64 ((n+1:Nat):Int)) 0 Tryz.func183 Z Z Z Z Z Z Z (fun h s0=>methodA_val meth_len Z Z (loadA_cells (s0.has (p:=0) Z me) (readT_ok hT rfl))) Z (fun G hG hBG=>qlen_spec G a (n+1) c) (fun v hv=>?_)
 subst hv
 refine zB4 ?_
 refine WT.know (v':=.int .i64 (n:Nat)) 8 Z (by congr 1;omega) ?_
 refine WT.invoke1F 0 Tryz.func185 Z Z Z Z Z Z Z (fun h s0=>methodA_val meth_swap Z Z (loadA_cells (s0.has (p:=0) Z me) (readT_ok hT rfl))) Z (fun _=>rfl) (qswap_spec F L hq hx hy) (fun F2 v B2 hF2 hv=>?_)
 obtain⟨B3,rfl,hB3⟩:=hv
 refine zB4 ?_
 refine WT.know (v':=.int .i64 (n:Nat)) 11 Z (by congr 1;omega) ?_
 refine WT.call1F 0 Tryz.func103 Z Z Z Z Z Z Z (fun _=>rfl) (hdown_spec F2 L hB3 zo (m:=n) zo (hh.pop hql hx hy)) (fun F3 v B4 hF3 hv=>?_)
 obtain⟨B5,Q2,rfl,hB5,hp,hh2,hsame⟩:=hv
 have hQ2l:=hB5.len
 have hlast:Q2[n]?=some x:=by
  rw[hsame n (Nat.le_refl _),List.getElem?_set_self (by simp;omega)]
 refine zB4 ?_
 refine WT.invoke1F 0 Tryz.func187 Z Z Z Z Z Z Z (fun h s0=>methodA_ptr meth_pop Z Z h) Z (fun _=>rfl) (qpop_spec F3 L hB5 zo hlast) (fun F4 v B6 hF4 hv=>?_)
 obtain⟨rfl,l,rfl,hl⟩:=hv
 refine zB4 ?_
 have hperm:Q.Perm (x::Q2.take n):=by
  have e:Q2=Q2.take n++[x]:=by
   have:=List.take_append_drop n Q2
   rw[List.drop_eq_getElem_cons zo] at this
   have h2:=(gS hlast).2
   rw[h2,List.drop_of_length_le zo] at this
   exact this.symm
  have p1:=(hp.trans (perm_swapQ hx hy)).symm
  rw[e] at p1
  exact p1.trans (List.perm_append_comm (l₁:=Q2.take n) (l₂:=[x]))
 refine AW.ret ⟨_,[_],⟨_,_,rfl,rfl,rfl⟩,zsb,_,rfl,B5,Q2.take n,x,l,rfl,(hB5.mono hF4).take (Nat.le_succ n),hperm,hh2.take zo,fun z hz=>?_,rfl,hl⟩
 exact heap_min hh hx (hperm.mem_iff.2 (List.mem_cons_of_mem _ hz))
end Go.Proofs.D
set_option linter.unusedVariables false
set_option maxRecDepth 20000
set_option maxHeartbeats 0
open Go Go.Abs Go.Proofs Go.Proofs.D
namespace Go.Abs
def eqElemsT(T:RT)(eq:Value→Value→Option Bool)(e s:Nat)(xs ys:List Value):List Nat→Option Bool
 | []=>some true
 | i::is=>match readT T xs e (i*s),readT T ys e (i*s) with
  | some a,some b=>match eq a b,eqElemsT T eq e s xs ys is with
   | some p,some q=>some (p&&q)
   | _,_=>none
  | _,_=>none
def eqT2(C:Ctx)(T:RT):Nat→TypeId→Value→Value→Option Bool
 | 0,_,_,_=>none
 | n+1,t,x,y=>
  match rowOf T t with
  | some r=>match r.d,x,y with
   | .struct fs,.agg ⟨xs⟩,.agg ⟨ys⟩=>bif C.flat t then eqFieldsT T (eqT2 C T n) fs xs ys else none
   | .array len e,.agg ⟨xs⟩,.agg ⟨ys⟩=>match sizeT T e with
    | some s=>eqElemsT T (eqT2 C T n e) e s xs ys (List.range len)
    | none=>none
   | .int _,.int k a,.int k' b=>if k=k' then some (a==b) else none
   | .pointer _,.pointer none,.pointer none=>some true
   | _,_,_=>none
  | none=>none
def keyElemsT(T:RT)(ok:Value→Bool)(e s:Nat)(xs:List Value):List Nat→Bool
 | []=>true
 | i::is=>(match readT T xs e (i*s) with
  | some a=>ok a
  | none=>false)&&keyElemsT T ok e s xs is
def keyT2(T:RT):Nat→TypeId→Value→Bool
 | 0,_,_=>false
 | n+1,t,v=>
  match rowOf T t with
  | some r=>match r.d,v with
   | .struct fs,.agg ⟨cs⟩=>keyFieldsT T (keyT2 T n) fs cs
   | .array len e,.agg ⟨xs⟩=>match sizeT T e with
    | some s=>keyElemsT T (keyT2 T n e) e s xs (List.range len)
    | none=>false
   | .int _,v=>!isTomb v
   | .pointer _,v=>!isTomb v
   | _,_=>false
  | none=>false
section
variable {C:Ctx}{T:RT}(hT:rowsOk C T=true)
include hT
theorem eqElemsT_ok{eqt eqa:Value→Value→Option Bool}(he:∀x y b,eqt x y=some b→eqa x y=some b)(e s:Nat)(xs ys:List Value):∀(is:List Nat) (b:Bool),eqElemsT T eqt e s xs ys is=some b→eqElems C eqa e s xs ys is=some b
 | [],b,q=>q
 | i::is,b,q=>by
  simp only[eqElemsT] at q
  split at q
  ·rename_i u v hu hv
   split at q
   ·rename_i p r hp hr
    cases q
    unfold eqElems
    rw[readT_ok hT hu,readT_ok hT hv]
    simp only[he _ _ _ hp]
    cases p with
    | true=>simpa using eqElemsT_ok he e s xs ys is r hr
    | false=>rfl
   ·cases q
  ·cases q
theorem eqT2_ok:∀(n:Nat) (t:TypeId) (x y:Value) (b:Bool),eqT2 C T n t x y=some b→eqA C n t x y=some b
 | 0,_,_,_,_,q=>by cases q
 | n+1,t,x,y,b,q=>by
  unfold eqT2 at q
  split at q
  ·rename_i r hr
   split at q
   ·rename_i fs xs ys hd
    obtain⟨fs',hu,hfs⟩:=und_struct hT hr hd
    cases hf:C.flat t with
    | false=>rw[hf] at q;cases q
    | true=>
     rw[hf] at q
     simp only[cond_true] at q
     unfold eqA
     simp only[hu,hf,cond_true]
     rw[hfs] at q
     exact eqFieldsT_ok hT (eqT2_ok n) _ _ _ _ q
   ·rename_i len e xs ys hd
    have hu:=und_array hT hr hd
    split at q
    ·rename_i s hs
     unfold eqA
     simp only[hu,sizeT_ok hT hs]
     exact eqElemsT_ok hT (fun x y b=>eqT2_ok n e x y b) e s _ _ _ _ q
    ·cases q
   ·rename_i kd k a k' b' hd
    have hu:=und_int hT hr hd
    unfold eqA
    simp only[hu,eqBasic]
    exact q
   ·rename_i hd
    have hu:=und_pointer hT hr hd
    cases q
    unfold eqA
    simp only[hu,eqBasic]
   ·cases q
  ·cases q
theorem keyElemsT_ok{ok1 ok2:Value→Bool}(he:∀v,ok1 v=true→ok2 v=true)(e s:Nat)(xs:List Value):∀(is:List Nat),keyElemsT T ok1 e s xs is=true→keyElems C ok2 e s xs is=true
 | [],_=>rfl
 | i::is,q=>by
  simp only[keyElemsT,Bool.and_eq_true] at q
  obtain⟨q1,q2⟩:=q
  unfold keyElems
  rw[keyElemsT_ok he e s xs is q2,Bool.and_true]
  split at q1
  ·rename_i a ha
   rw[readT_ok hT ha]
   exact he _ q1
  ·cases q1
theorem keyT2_ok:∀(n:Nat) (t:TypeId) (v:Value),keyT2 T n t v=true→keyOk C n t v=true
 | 0,_,_,q=>by cases q
 | n+1,t,v,q=>by
  unfold keyT2 at q
  split at q
  ·rename_i r hr
   split at q
   ·rename_i fs cs hd
    obtain⟨fs',hu,hfs⟩:=und_struct hT hr hd
    unfold keyOk
    simp only[hu]
    rw[hfs] at q
    exact keyFieldsT_ok hT (keyT2_ok n) _ _ q
   ·rename_i len e xs hd
    split at q
    ·rename_i s hs
     unfold keyOk
     simp only[und_array hT hr hd,sizeT_ok hT hs]
     exact keyElemsT_ok hT (fun v=>keyT2_ok n e v) e s _ _ q
    ·cases q
   ·rename_i k hd
    unfold keyOk
    rw[und_int hT hr hd]
    simpa [basicD] using q
   ·rename_i k hd
    unfold keyOk
    rw[und_pointer hT hr hd]
    simpa [basicD] using q
   ·cases q
  ·cases q
end
end Go.Abs
namespace Go.Proofs.D
theorem cand_eqB(p q:Cand):(((p.node:Int)==(q.node:Int))&&(((p.pack:Int)==(q.pack:Int))&&((((p.r0:Int)==(q.r0:Int))&&(((p.r1:Int)==(q.r1:Int))&&(((p.r2:Int)==(q.r2:Int))&&(((p.r3:Int)==(q.r3:Int))&&true))))&&(true&&true))))=decide (p=q):=by
 rw[Bool.eq_iff_iff]
 obtain⟨a,b,c,d,e,f⟩:=p
 obtain⟨a',b',c',d',e',f'⟩:=q
 simp only[Bool.and_eq_true,beq_iff_eq,decide_eq_true_eq,Cand.mk.injEq,and_true]
 omega
def keyC:KeyTy CC 156 Cand where
 key:=fun p=>.agg ⟨candV p (.pointer none)⟩
 ok:=fun p=>keyT2_ok hT 8 _ _ rfl
 eq:=fun p q=>by
  have h:eqA CC 8 156 (.agg ⟨candV p (.pointer none)⟩) (.agg ⟨candV q (.pointer none)⟩)=some (decide (p=q)):=by
   rw[←cand_eqB]
   exact eqT2_ok hT 8 _ _ _ _ rfl
  by_cases e:p=q
  ·exact .inl ⟨e,by rw[h];simp[e]⟩
  ·exact .inr ⟨e,by rw[h];simp[e]⟩
def keyW:KeyTy CC 198 (Nat×Nat) where
 key:=fun p=>.agg ⟨[.int .i64 p.1,.int .i64 p.2]⟩
 ok:=fun p=>keyT2_ok hT 8 _ _ rfl
 eq:=fun p q=>by
  have h:eqA CC 8 198 (.agg ⟨[.int .i64 p.1,.int .i64 p.2]⟩) (.agg ⟨[.int .i64 q.1,.int .i64 q.2]⟩)=some (decide (p=q)):=by
   rw[←key_eq]
   exact eqT2_ok hT 8 _ _ _ _ rfl
  by_cases e:p=q
  ·exact .inl ⟨e,by rw[h];simp[e]⟩
  ·exact .inr ⟨e,by rw[h];simp[e]⟩
inductive RowsP(F:Frz):List Value→List (Nat×Blk)→List (List Nat)→Prop
 | nil:RowsP F [] [] []
 | cons {a:Option Addr} {n c:Nat} {B bs:List (Nat×Blk)} {ps:List Nat} {vs:List Value} {pss:List (List Nat)}:Bld tPtr F a n c B ps→RowsP F vs bs pss→RowsP F (.slice a n c::vs) (B++bs) (ps::pss)
theorem cellsP{F G:Frz}{cs:List Value}{ps:List Nat}(h:Cells tPtr F cs ps):Cells tPtr G cs ps:=by
 induction h with
 | nil=>exact .nil
 | cons h _ ih=>exact .cons h ih
theorem bldP{F G:Frz}{a:Option Addr}{n c:Nat}{B:List (Nat×Blk)}{ps:List Nat}(h:Bld tPtr F a n c B ps):Bld tPtr G a n c B ps:=
 ⟨h.len,h.at_.imp id fun ⟨i,cs,h1,h2,h3,h4,h5⟩=>⟨i,cs,h1,h2,h3,cellsP h4,h5⟩⟩
theorem RowsP.any{F G:Frz}{vs:List Value}{bs:List (Nat×Blk)}{pss:List (List Nat)}(h:RowsP F vs bs pss):RowsP G vs bs pss:=by
 induction h with
 | nil=>exact .nil
 | cons h _ ih=>exact .cons (bldP h) ih
theorem RowsP.len{F:Frz}{vs:List Value}{bs:List (Nat×Blk)}{pss:List (List Nat)}(h:RowsP F vs bs pss):vs.length=pss.length:=by
 induction h with
 | nil=>rfl
 | cons _ _ ih=>simp[ih]
theorem RowsP.split{F:Frz}{vs:List Value}{bs:List (Nat×Blk)}{pss:List (List Nat)}(h:RowsP F vs bs pss):∀{i:Nat} {ps:List Nat},pss[i]?=some ps→
  ∃a n c B b1 b2,vs[i]?=some (.slice a n c)∧bs=b1++(B++b2)∧Bld tPtr F a n c B ps∧
   ∀(a':Option Addr) (n' c':Nat) (B':List (Nat×Blk)) (ps':List Nat),Bld tPtr F a' n' c' B' ps'→RowsP F (vs.set i (.slice a' n' c')) (b1++(B'++b2)) (pss.set i ps'):=by
 induction h with
 | nil=>intro i ps h;simp at h
 | @cons a n c B bs p0 vs pss hv hR ih=>
  intro i ps hi
  cases i with
  | zero=>
   obtain rfl:p0=ps:=by simpa using hi
   exact⟨a,n,c,B,[],bs,rfl,rfl,hv,fun a' n' c' B' ps' h'=>(show RowsP F (.slice a' n' c'::vs) (B'++bs) (ps'::pss) from .cons h' hR)⟩
  | succ i=>
   obtain⟨a',n',c',B',b1,b2,h1,h2,h3,h4⟩:=ih (i:=i) (by simpa using hi)
   refine⟨a',n',c',B',B++b1,b2,by simpa using h1,by rw[h2,List.append_assoc],h3,fun a2 n2 c2 B2 p2 h5=>?_⟩
   have:=RowsP.cons hv (h4 a2 n2 c2 B2 p2 h5)
   simpa [List.append_assoc] using this
def tCN:Ty Cand where
 size:=7
 rel:=fun _ l c=>l=candV c (.pointer none)
 len:=fun _ _ _ h=>by rw[h];rfl
 one:=fun _ _ _ h=>by rw[h];rfl
 mono:=fun _ _ _ _ _ h=>h
theorem cellsN{F G:Frz}{cs:List Value}{ps:List Cand}(h:Cells tCN F cs ps):Cells tCN G cs ps:=by
 induction h with
 | nil=>exact .nil
 | cons h _ ih=>exact .cons h ih
theorem bldC{F G:Frz}{a:Option Addr}{n c:Nat}{B:List (Nat×Blk)}{ps:List Cand}(h:Bld tCN F a n c B ps):Bld tCN G a n c B ps:=
 ⟨h.len,h.at_.imp id fun ⟨i,cs,h1,h2,h3,h4,h5⟩=>⟨i,cs,h1,h2,h3,cellsN h4,h5⟩⟩
inductive WaitsP(F:Frz):Ents (Nat×Nat)→List (Nat×Blk)→List ((Nat×Nat)×List Cand)→Prop
 | nil:WaitsP F [] [] []
 | cons {k:Nat×Nat} {a:Option Addr} {n c:Nat} {B bs:List (Nat×Blk)} {cs:List Cand} {m:Ents (Nat×Nat)} {ws:List ((Nat×Nat)×List Cand)}:Bld tCN F a n c B cs→WaitsP F m bs ws→WaitsP F ((k,.slice a n c)::m) (B++bs) ((k,cs)::ws)
theorem WaitsP.any{F G:Frz}{m:Ents (Nat×Nat)}{bs:List (Nat×Blk)}{ws:List ((Nat×Nat)×List Cand)}(h:WaitsP F m bs ws):WaitsP G m bs ws:=by
 induction h with
 | nil=>exact .nil
 | cons h _ ih=>exact .cons (bldC h) ih
def getW:List ((Nat×Nat)×List Cand)→Nat×Nat→List Cand
 | [],_=>[]
 | (k,cs)::ws,w=>if w=k then cs else getW ws w
theorem getW_none{F:Frz}{m:Ents (Nat×Nat)}{bs:List (Nat×Blk)}{ws:List ((Nat×Nat)×List Cand)}(h:WaitsP F m bs ws){w:Nat×Nat}(hw:∀p∈m,p.1≠w):getW ws w=[]:=by
 induction h with
 | nil=>rfl
 | cons _ _ ih=>
  unfold getW
  rw[if_neg fun e=>hw _ me e.symm]
  exact ih fun p hp=>hw p (List.mem_cons_of_mem _ hp)
theorem WaitsP.split{F:Frz}{m:Ents (Nat×Nat)}{bs:List (Nat×Blk)}{ws:List ((Nat×Nat)×List Cand)}(h:WaitsP F m bs ws)(hn:(m.map (·.1)).Nodup)(w:Nat×Nat) :
  (Abs.look m w=none∧getW ws w=[]∧mdel m w=m∧∀(a:Option Addr) (n c:Nat) (B:List (Nat×Blk)) (cs:List Cand),Bld tCN F a n c B cs→∃ws',WaitsP F (mset m w (.slice a n c)) (bs++B) ws'∧∀x,getW ws' x=if x=w then cs else getW ws x)∨
  (∃a n c B b1 b2,Abs.look m w=some (.slice a n c)∧bs=b1++(B++b2)∧Bld tCN F a n c B (getW ws w)∧
   (∀(a':Option Addr) (n' c':Nat) (B':List (Nat×Blk)) (cs':List Cand),Bld tCN F a' n' c' B' cs'→∃ws',WaitsP F (mset m w (.slice a' n' c')) (b1++(B'++b2)) ws'∧∀x,getW ws' x=if x=w then cs' else getW ws x)∧
   ∃ws',WaitsP F (mdel m w) (b1++b2) ws'∧∀x,getW ws' x=if x=w then [] else getW ws x):=by
 induction h with
 | nil=>exact .inl ⟨rfl,rfl,rfl,fun a n c B cs hb=>⟨[(w,cs)],by simpa [mset] using WaitsP.cons (k:=w) hb .nil,fun x=>by simp[getW]⟩⟩
 | @cons k a n c B bs cs m ws hb hW ih=>
  simp only[List.map_cons,List.nodup_cons] at hn
  by_cases e:w=k
  ·subst e
   refine .inr ⟨a,n,c,B,[],bs,by simp[Abs.look],rfl,by simpa [getW] using hb,fun a' n' c' B' cs' hb'=>⟨(w,cs')::ws,?_,fun x=>?_⟩,ws,?_,fun x=>?_⟩
   ·have:mset ((w,Value.slice a n c)::m) w (.slice a' n' c')=(w,.slice a' n' c')::m:=by simp[mset]
    rw[this]
    exact(show WaitsP F ((w,.slice a' n' c')::m) (B'++bs) ((w,cs')::ws) from .cons hb' hW)
   ·unfold getW
    by_cases hx:x=w
    ·rw[if_pos hx,if_pos hx]
    ·rw[if_neg hx,if_neg hx,if_neg hx]
   ·have:mdel ((w,Value.slice a n c)::m) w=m:=by simp[mdel]
    rw[this]
    exact hW
   ·by_cases hx:x=w
    ·rw[if_pos hx,hx]
     exact getW_none hW fun p hp e2=>hn.1 (List.mem_map.2 ⟨p,hp,e2⟩)
    ·rw[if_neg hx]
     show getW ws x=getW ((w,cs)::ws) x
     unfold getW
     rw[if_neg hx]
     cases ws<;>rfl
  ·have hg:∀(ws:List ((Nat×Nat)×List Cand)) (cs:List Cand),getW ((k,cs)::ws) w=getW ws w:=fun ws cs=>by
    show (if w=k then cs else getW ws w)=_
    rw[if_neg e]
   have hg2:∀(ws':List ((Nat×Nat)×List Cand)) (v:List Cand),(∀x,getW ws' x=if x=w then v else getW ws x)→∀x,getW ((k,cs)::ws') x=if x=w then v else getW ((k,cs)::ws) x:=fun ws' v h x=>by
    show (if x=k then cs else getW ws' x)=if x=w then v else (if x=k then cs else getW ws x)
    by_cases hx:x=k
    ·rw[if_pos hx,if_neg (fun e2=>e (e2.symm.trans hx)),if_pos hx]
    ·rw[if_neg hx,h x,if_neg hx]
   rcases ih hn.2 with ⟨h1,h2,h2',h3⟩ | ⟨a2,n2,c2,B2,b1,b2,h1,h2,h3,h4,ws',h5,h6⟩
   ·refine .inl ⟨by simp only[Abs.look];rw[if_neg e];exact h1,by rw[hg];exact h2,by simp only[mdel];rw[if_neg e,h2'],fun a' n' c' B' cs' hb'=>?_⟩
    obtain⟨ws',h5,h6⟩:=h3 a' n' c' B' cs' hb'
    refine⟨(k,cs)::ws',?_,hg2 ws' cs' h6⟩
    have:mset ((k,Value.slice a n c)::m) w (.slice a' n' c')=(k,.slice a n c)::mset m w (.slice a' n' c'):=by simp only[mset];rw[if_neg e]
    rw[this,List.append_assoc]
    exact .cons hb h5
   ·refine .inr ⟨a2,n2,c2,B2,B++b1,b2,by simp only[Abs.look];rw[if_neg e];exact h1,by rw[h2,List.append_assoc],by rw[hg];exact h3,fun a' n' c' B' cs' hb'=>?_,(k,cs)::ws',?_,hg2 ws' [] h6⟩
    ·obtain⟨ws',h5,h6⟩:=h4 a' n' c' B' cs' hb'
     refine⟨(k,cs)::ws',?_,hg2 ws' cs' h6⟩
     have:mset ((k,Value.slice a n c)::m) w (.slice a' n' c')=(k,.slice a n c)::mset m w (.slice a' n' c'):=by simp only[mset];rw[if_neg e]
     rw[this,List.append_assoc]
     exact .cons hb h5
    ·have:mdel ((k,Value.slice a n c)::m) w=(k,.slice a n c)::mdel m w:=by simp only[mdel];rw[if_neg e]
     rw[this,List.append_assoc]
     exact .cons hb h5
def foOf(Ns:List Node):Fo where
 n:=Ns.length
 leaf:=fun v=>match Ns[v]? with
  | some x=>if x.key.sym.term=true then some x.key.sym.n else none
  | none=>none
 packs:=fun v=>match Ns[v]? with
  | some x=>x.packs
  | none=>[]
structure LP where
 li:Nat
 na:Option Addr
 nn:Nat
 nc:Nat
 root:Nat
 most:Nat
 lo:Nat
 lc:Nat
 is:Nat
 iw:Nat
structure LR where
 qa:Option Addr
 qn:Nat
 qc:Nat
 qB:List (Nat×Blk)
 Q:List (Cand×Tree)
 vs:List Value
 bs:List (Nat×Blk)
 pss:List (List Nat)
 se:List (Value×Value)
 sm:Ents Cand
 we:List (Value×Value)
 wm:Ents (Nat×Nat)
 wbs:List (Nat×Blk)
 ws:List ((Nat×Nat)×List Cand)
def lrL(p:LP):LB:=⟨p.li,.slice p.na p.nn p.nc,.int .i64 p.root,.int .i64 p.most,.slice (some ⟨p.lo,0,none⟩) p.nn p.lc,.map (some p.is),.map (some p.iw),rfl,rfl,rfl,rfl,rfl,rfl⟩
def lrB(p:LP)(r:LR):List (Nat×Blk):=lB (lrL p) r.qa r.qn r.qc r.qB++([(p.lo,.cells false r.vs)]++(r.bs++([(p.is,.map r.se)]++([(p.iw,.map r.we)]++r.wbs))))
structure LOk(p:LP)(Ns:List Node)(F:Frz)(r:LR)(s:Lst):Prop where
 nodes:Arr tNode F p.na p.nn p.nc Ns
 q:GB tCQ F r.qa r.qn r.qc r.qB r.Q
 qp:r.Q.Perm s.q
 qh:HeapN r.Q r.Q.length
 rows:RowsP F r.vs r.bs r.pss
 rlen:r.pss.length=p.nn
 trees:∀(v:Nat) (ps:List Nat),r.pss[v]?=some ps→ShL F ps (s.lists v)
 se:alive r.se=entsV keyC r.sm
 sl:∀c,Abs.look r.sm c=if c∈s.seen then some (.bool true) else none
 we:alive r.we=entsV keyW r.wm
 wn:(r.wm.map (·.1)).Nodup
 ws:WaitsP F r.wm r.wbs r.ws
 wg:∀w,s.waits w=getW r.ws w
theorem LOk.mono{p:LP}{Ns:List Node}{F G:Frz}{r:LR}{s:Lst}(h:LOk p Ns F r s)(hF:Frz.le F G):LOk p Ns G r s:=
 ⟨h.nodes.mono hF,h.q.mono hF,h.qp,h.qh,h.rows.any,h.rlen,fun v ps hv=>(h.trees v ps hv).mono hF,h.se,h.sl,h.we,h.wn,h.ws.any,h.wg⟩
theorem lrB_own(p:LP)(r:LR)(own:Own):OwnLe (((p.li,.cells false [.slice p.na p.nn p.nc,.int .i64 p.root,.int .i64 p.most,.slice (some ⟨p.lo,0,none⟩) p.nn p.lc,.map (some p.is),.map (some p.iw),.slice r.qa r.qn r.qc])::r.qB)::[(p.lo,.cells false r.vs)]::r.bs::[(p.is,.map r.se)]::[(p.iw,.map r.we)]::r.wbs::own) (lrB p r::own):=
 OwnLe.flat (List.Perm.of_eq (by simp[lrB,lB,lrL,lCells]))
theorem lrB_own'(p:LP)(r:LR)(own:Own):OwnLe (lrB p r::own) (((p.li,.cells false [.slice p.na p.nn p.nc,.int .i64 p.root,.int .i64 p.most,.slice (some ⟨p.lo,0,none⟩) p.nn p.lc,.map (some p.is),.map (some p.iw),.slice r.qa r.qn r.qc])::r.qB)::[(p.lo,.cells false r.vs)]::r.bs::[(p.is,.map r.se)]::[(p.iw,.map r.we)]::r.wbs::own):=
 OwnLe.flat (List.Perm.of_eq (by simp[lrB,lB,lrL,lCells]))
theorem Inv.q_few{f:Fo}{most:Nat}{s:Lst}{done pend ex:List Cand}(h:Inv f most s done pend ex):s.q.length≤s.seen.length:=by
 have:=sub_len (s.q.map (·.1)) s.seen h.qnd fun c hc=>by
  obtain⟨x,hx,rfl⟩:=List.mem_map.1 hc
  exact(h.qok x hx).1
 rwa [List.length_map] at this
theorem Inv.w_few{f:Fo}{most:Nat}{s:Lst}{done pend ex:List Cand}(h:Inv f most s done pend ex)(w:Nat×Nat):(s.waits w).length≤s.seen.length:=
 sub_len (s.waits w) s.seen (h.wnd w) fun c hc=>(h.wok w c hc).1
theorem miss_at{L:Nat→List Tree}:∀{ks rs:List Nat} {j k r:Nat},(∀i,i<j→∃k r t,ks[i]?=some k∧rs[i]?=some r∧(L k)[r]?=some t)→ks[j]?=some k→rs[j]?=some r→(L k)[r]?=none→miss L ks rs=some (k,r)
 | [],_,_,_,_,_,h,_,_=>by simp at h
 | _::_,[],_,_,_,_,_,h,_=>by simp at h
 | k0::ks,r0::rs,0,k,r,_,h1,h2,h3=>by
  obtain rfl:k0=k:=by simpa using h1
  obtain rfl:r0=r:=by simpa using h2
  unfold miss
  simp only[h3]
 | k0::ks,r0::rs,j+1,k,r,h0,h1,h2,h3=>by
  obtain⟨k',r',t,e1,e2,e3⟩:=h0 0 zo
  obtain rfl:k0=k':=by simpa using e1
  obtain rfl:r0=r':=by simpa using e2
  unfold miss
  simp only[e3]
  exact miss_at (j:=j) (fun i hi=>by
   obtain⟨k',r',t,e1,e2,e3⟩:=h0 (i+1) zo
   exact⟨k',r',t,by simpa using e1,by simpa using e2,e3⟩) (by simpa using h1) (by simpa using h2) h3
theorem pick_miss{L:Nat→List Tree}{ks rs:List Nat}{ts:List Tree}(h:pick L ks rs=some ts):miss L ks rs=none:=by
 cases hm:miss L ks rs with
 | none=>rfl
 | some w=>
  obtain⟨i,h1,h2,h3⟩:=miss_some (k:=w.1) (r:=w.2) hm
  obtain⟨r,t,e1,e2,_⟩:=(pick_some h).2 i _ h1
  rw[h2] at e1;cases e1
  rw[h3] at e2;cases e2
theorem WaitsP.slot{F:Frz}{m:Ents (Nat×Nat)}{bs:List (Nat×Blk)}{ws:List ((Nat×Nat)×List Cand)}(h:WaitsP F m bs ws)(hn:(m.map (·.1)).Nodup)(w:Nat×Nat) :
  ∃a n c WB W1 W2,(Abs.look m w).getD (.slice none 0 0)=.slice a n c∧bs=W1++(WB++W2)∧Bld tCN F a n c WB (getW ws w)∧
   (∀(a':Option Addr) (n' c':Nat) (B':List (Nat×Blk)) (cs':List Cand),Bld tCN F a' n' c' B' cs'→∃ws',WaitsP F (mset m w (.slice a' n' c')) (W1++(B'++W2)) ws'∧∀x,getW ws' x=if x=w then cs' else getW ws x)∧
   ∃ws',WaitsP F (mdel m w) (W1++W2) ws'∧∀x,getW ws' x=if x=w then [] else getW ws x:=by
 rcases h.split hn w with ⟨h1,h2,h2',h3⟩ | ⟨a,n,c,B,b1,b2,h1,h2,h3,h4,h5⟩
 ·refine⟨none,0,0,[],bs,[],by rw[h1];rfl,by simp,by rw[h2];exact Bld.nil_ _ _,fun a' n' c' B' cs' hb=>?_,ws,by rw[h2',List.append_nil];exact h,fun x=>?_⟩
  ·rw[List.append_nil];exact h3 a' n' c' B' cs' hb
  ·split
   ·rename_i e;rw[e,h2]
   ·rfl
 ·exact⟨a,n,c,B,b1,b2,by rw[h1];rfl,h2,h3,h4,h5⟩
theorem own_wsplit(A B C:List (Nat×Blk))(own:Own):OwnLe ((A++C)::B::own) ((A++(B++C))::own):=by
 refine OwnLe.flat ?_
 simp only[List.flatten_cons,List.append_assoc]
 refine List.Perm.append_left A ?_
 have:=(List.perm_append_comm (l₁:=B) (l₂:=C)).append_right own.flatten
 simpa [List.append_assoc] using this
theorem own_wjoin(A B C:List (Nat×Blk))(own:Own):OwnLe ((A++(B++C))::own) ((A++C)::B::own):=by
 refine OwnLe.flat ?_
 simp only[List.flatten_cons,List.append_assoc]
 refine List.Perm.append_left A ?_
 have:=(List.perm_append_comm (l₁:=C) (l₂:=B)).append_right own.flatten
 simpa [List.append_assoc] using this
theorem cand_rank{c:Cand}{j r:Nat}{t:Value}(h:c.ranks[j]?=some r):([.int .i64 c.node,.int .i64 c.pack,.int .i64 c.r0,.int .i64 c.r1,.int .i64 c.r2,.int .i64 c.r3,t]:List Value)[0+2+j*1]?=some (.int .i64 r):=by
 match j,h with
 | 0,h=>simp[Cand.ranks] at h;subst h;rfl
 | 1,h=>simp[Cand.ranks] at h;subst h;rfl
 | 2,h=>simp[Cand.ranks] at h;subst h;rfl
 | 3,h=>simp[Cand.ranks] at h;subst h;rfl
 | _+4,h=>simp[Cand.ranks] at h
structure TrS where
 ka:Option Addr
 kc:Nat
 KB:List (Nat×Blk)
 ps:List Nat
 ts:List Tree
theorem ltry_spec(F:Frz){p:LP}{Ns:List Node}{r:LR}{s:Lst}{c:Cand}{done pend ex:List Cand}(hl:LOk p Ns F r s)(hf:(foOf Ns).Good)(hI:Inv (foOf Ns) p.most s done (c::pend) ex)(hm:p.most≤1000)(hseen:s.seen.length≤800000000000)(hNs:Ns.length≤1000000) :
  Abs.Spec CC 102 [.pointer (some ⟨p.li,0,none⟩),.agg ⟨candV c (.pointer none)⟩] F [lrB p r] fun F' v o=>∃B',o=[B']∧∃r',B'=lrB p r'∧LOk p Ns F' r' (tryS (foOf Ns) s c):=by
 have hnl:=hl.nodes.len
 have hok:=hI.ok c (hI.psub c me)
 obtain⟨pk,hpk⟩:=hok.pack
 have hcn:c.node<Ns.length:=hok.node
 obtain⟨x,hx⟩:∃x,Ns[c.node]?=some x:=⟨_,gE hcn⟩
 have hpx:x.packs[c.pack]?=some pk:=by
  unfold packAt foOf at hpk
  simpa [hx] using hpk
 have hkid:=hf.kids c.node hok.node pk (gM hpk)
 have hcr:∀r0∈c.ranks,r0≤1000:=fun r0 h0=>Nat.le_trans (hok.rank r0 h0) hm
 have hqf:=hI.q_few
 have hqn:r.qn≤800000000000:=by rw[hl.q.len,hl.qp.length_eq];omega
 unfold candV
 refine Abs.Spec.fn (n:=120) Tryz.func102 rfl rfl fun own=>?_
 refine AW.seq (AW.reg ?_)
 refine WT.boxT Z Z Z Z Z Z (fun i3 hi3=>?_)
 refine WT.le (OwnLe.cons _ (lrB_own p r own)) ?_
 refine zB4 ?_
 refine AW.draw (ps:=[(4,14),(6,14),(9,14),(11,14),(13,14)]) Z Z ?_
 refine zB4 ?_
 refine WT.idxL hT hl.nodes Z Z Z Z Z Z Z Z Z zo (fun z hz b7 off7 ro7 cs7 lx7 hb7 hp7 hrel7=>?_)
 rw[hx] at hz;cases hz
 obtain⟨pa,pn,pc,rfl,hpa⟩:=hrel7
 have hpal:=hpa.len
 refine zB4 ?_
 refine WT.idxL hT hpa Z Z Z Z Z Z Z Z Z (by have:=(gS hpx).1;omega) (fun z hz b8 off8 ro8 cs8 lx8 hb8 hp8 hrel8=>?_)
 rw[hpx] at hz;cases hz
 obtain⟨ka,kn,kc,rfl,hka,hkl⟩:=hrel8
 have hkal:=hka.len
 refine zB4 ?_
 refine WT.allocT hT Z Z Z Z Z Z (fun i4 hi4=>?_)
 refine zB4 ?_
 refine⟨zrA,?_⟩
 refine zB4 ?_
 refine WT.boxT Z Z Z Z Z Z (fun i5 hi5=>?_)
 refine zB4 ?_
 refine AW.range (S:=TrS) (fun _=>[]) (fun u=>[(i5,.cells false [.int .i64 pk.rule,.int .i64 0,.int .i64 ((1+(preL u.ts).length:Nat):Int),.slice u.ka u.ts.length u.kc])]::u.KB::[(i4,.cells false [.int .i64 pk.rule,.slice ka kn kc])]::[(i3,.cells false [.int .i64 c.node,.int .i64 c.pack,.int .i64 c.r0,.int .i64 c.r1,.int .i64 c.r2,.int .i64 c.r3,.pointer none])]::((p.li,.cells false [.slice p.na p.nn p.nc,.int .i64 p.root,.int .i64 p.most,.slice (some ⟨p.lo,0,none⟩) p.nn p.lc,.map (some p.is),.map (some p.iw),.slice r.qa r.qn r.qc])::r.qB)::[(p.lo,.cells false r.vs)]::r.bs::[(p.is,.map r.se)]::[(p.iw,.map r.we)]::r.wbs::own)
  (fun j u G=>Bld tPtr G u.ka u.ts.length u.kc u.KB u.ps∧ShL G u.ps u.ts∧u.ts.length=j∧(preL u.ts).length≤j*5000∧∀i,i<j→∃k r t,pk.kids[i]?=some k∧c.ranks[i]?=some r∧(s.lists k)[r]?=some t∧u.ts[i]?=some t) kn ⟨none,0,[],[],[]⟩
  Z Z Z Z Z Z Z Z Z zo rfl rfl (fun _=>rfl) (fun _=>rfl) sM (OwnLe.flat (List.Perm.refl _)) ⟨Bld.nil_ _ _,.nil,rfl,Nat.zero_le _,fun i hi=>by omega⟩ ?_ ?_
 ·intro j u F1 hF1 hj hP
  obtain⟨hb,hS,hul,hul2,hav⟩:=hP
  have hl1:=hl.mono hF1
  have hka1:=hka.mono hF1
  refine zB6 ?_
  refine WT.idxL hT hka1 Z Z Z Z Z Z Z Z Z zo (fun k hk b9 off9 ro9 cs9 lx9 hb9 hp9 hrel9=>?_)
  obtain rfl:lx9=_:=hrel9
  have hj4:j<4:=by omega
  obtain⟨rj,hrj⟩:∃rj,c.ranks[j]?=some rj:=⟨_,gE (by show j<4;exact hj4)⟩
  have hrj1:=hcr rj (gM hrj)
  have hkn:k<Ns.length:=hkid.2 k (gM hk)
  obtain⟨ps,hps⟩:∃ps,r.pss[k]?=some ps:=⟨_,gE (by have:=hl.rlen;omega)⟩
  obtain⟨va,vn,vc,VB,b1,b2,hvk,hbs,hVB,hput⟩:=hl1.rows.split hps
  have htr:=hl1.trees k ps hps
  have hvn:=hVB.len
  have htrl:=htr.len
  refine zB6 ?_
  refine WT.idxArr (j:=j) (s:=1) (len:=4) hT Z Z Z Z Z Z Z Z Z hj4 ?_
  refine WT.loadAt hT 3 Z Z Z Z Z Z me Z Z (cand_rank hrj) ?_
  refine zB6 ?_
  refine WT.idxA (j:=k) (s:=1) hT Z Z Z Z Z Z Z Z Z zo ?_
  refine WT.loadAt hT 5 Z Z Z Z Z Z me Z Z (v:=.slice va vn vc) (by rw[Nat.zero_add,Nat.mul_one];exact hvk) ?_
  refine zB6 ?_
  refine AW.cond Z (fun hc=>?_) (fun hc=>?_)
  ·have hc:vn≤rj:=by simp at hc;omega
   have hmiss:miss s.lists pk.kids c.ranks=some (k,rj):=miss_at (j:=j) (fun i hi=>by
    obtain⟨k',r',t,h1,h2,h3,_⟩:=hav i hi
    exact⟨k',r',t,h1,h2,h3⟩) hk hrj (List.getElem?_eq_none zo)
   obtain⟨xa,xn,xc,WB,W1,W2,hlk,hwbs,hWB,hset,_⟩:=hl1.ws.slot hl1.wn (k,rj)
   have hwf:=hI.w_few (k,rj)
   rw[hl1.wg] at hwf
   have hxn:=hWB.len
   rw[hwbs]
   refine AW.le (OwnLe.cons _ (OwnLe.cons _ (OwnLe.cons _ (OwnLe.cons _ (OwnLe.cons _ (OwnLe.cons _ (OwnLe.cons _ (OwnLe.cons _ (OwnLe.cons _ (own_wsplit W1 WB W2 own)))))))))) ?_
   refine zB6 ?_
   refine WT.idxArr (j:=j) (s:=1) (len:=4) hT Z Z Z Z Z Z Z Z Z hj4 ?_
   refine WT.loadAt hT 3 Z Z Z Z Z Z me Z Z (cand_rank hrj) ?_
   refine zB6 ?_
   refine WT.allocT hT Z Z Z Z Z Z (fun i8 hi8=>?_)
   refine zB6 ?_
   refine AW.draw (ps:=[(3,6),(4,6)]) Z Z ?_
   refine zB6 ?_
   refine WT.buildT hT Z Z Z Z Z Z Z Z Z Z Z Z Z Z (fun i62 hi62=>?_)
   refine WT.entryE keyW (key:=(k,rj)) hT 10 0 hl1.we Z Z Z Z Z Z Z Z Z Z Z (fun _=>rfl) (fun _=>rfl) (fun es1 st he=>?_)
   rw[hlk]
   refine zB6 ?_
   refine WT.appendT (ys:=[c]) hT 12 hWB Z (fun _=>rfl) Z Z Z Z Z Z Z Z Z Z Z (fun h0 s0=>news_own hT s0 0 Z Z Z Z) (Cells.single (R:=tCN) (x:=c) rfl) Z (by decide) zom (fun a3 c3 B3 hB3=>?_)
   refine zB6 ?_
   refine WT.entrySt keyW 10 0 he Z Z Z Z Z Z Z Z (fun _=>rfl) (fun _=>rfl) (fun es2 hes2=>?_)
   refine zB6 ?_
   refine⟨zrA,?_⟩
   skip
   obtain⟨ws',hws',hwg'⟩:=hset a3 (xn+1) c3 B3 _ hB3
   have htry:tryS (foOf Ns) s c={ s with waits:=fun x=>if x=(k,rj) then s.waits (k,rj)++[c] else s.waits x }:=by
    unfold tryS
    simp only[hpk,hmiss]
   refine AW.le (OwnLe.trans (lrB_own' p ⟨r.qa,r.qn,r.qc,r.qB,r.Q,r.vs,r.bs,r.pss,r.se,r.sm,es2,mset r.wm (k,rj) (.slice a3 (xn+1) c3),W1++(B3++W2),ws'⟩ own) (OwnLe.skip _ (OwnLe.skip _ (OwnLe.skip _ (OwnLe.skip _ (OwnLe.skip _ (OwnLe.skip _ (OwnLe.cons _ (OwnLe.cons _ (OwnLe.cons _ (OwnLe.cons _ (OwnLe.cons _ (own_wjoin W1 B3 W2 own))))))))))))) ?_
   refine AW.ret ⟨_,[_],rfl,zsb,_,rfl,_,rfl,?_⟩
   rw[htry]
   exact⟨hl1.nodes,hl1.q,hl1.qp,hl1.qh,hl1.rows,hl1.rlen,hl1.trees,hl1.se,hl1.sl,hes2,mset_keys hl1.wn,hws',fun x=>by
    show (if x=(k,rj) then s.waits (k,rj)++[c] else s.waits x)=_
    rw[hwg' x,hl1.wg,hl1.wg]⟩
  ·have hc:rj<vn:=by simp at hc;omega
   obtain⟨px,hpx2⟩:∃px,ps[rj]?=some px:=⟨_,gE zo⟩
   obtain⟨tt,htt⟩:∃tt,(s.lists k)[rj]?=some tt:=⟨_,gE zo⟩
   have hsh:=htr.at_ hpx2 htt
   have hsm:=hI.small k tt (gM htt)
   refine zB6 ?_
   refine WT.idxA (j:=k) (s:=1) hT Z Z Z Z Z Z Z Z Z zo ?_
   refine WT.loadAt hT 5 Z Z Z Z Z Z me Z Z (v:=.slice va vn vc) (by rw[Nat.zero_add,Nat.mul_one];exact hvk) ?_
   refine zB6 ?_
   refine WT.idxArr (j:=j) (s:=1) (len:=4) hT Z Z Z Z Z Z Z Z Z hj4 ?_
   refine WT.loadAt hT 3 Z Z Z Z Z Z me Z Z (cand_rank hrj) ?_
   skip
   refine WT.gidx hT hVB.gb Z Z Z Z Z Z Z Z Z hc (fun b1 hb1=>?_)
   refine WT.gld1 (x:=px) hT 6 hVB.gb hb1 hpx2 Z Z Z Z Z Z (fun z hz=>by rw[hbs];exact List.mem_append_right _ (List.mem_append_left _ hz)) Z Z Z (fun v hv=>?_)
   obtain rfl:v=_:=(List.singleton_inj.1 hv)
   refine zB6 ?_
   refine WT.buildT hT Z Z Z Z Z Z Z Z Z Z Z Z Z Z (fun i9 hi9=>?_)
   refine WT.appendT (ys:=[px]) hT 2 hb Z (fun _=>rfl) Z Z Z Z Z Z Z Z Z Z Z (fun h0 s0=>news_own hT s0 0 Z Z Z Z) (Cells.single (R:=tPtr) (x:=px) rfl) Z (by decide) zom (fun a3 c3 B3 hB3=>?_)
   have hsh0:=hsh
   cases hsh with
   | @mk _ tr tm tks ta tn tc tps g1 g2 g3=>
   refine zC6 ?_
   have elen:(preL (u.ts++[Tree.mk tr tm tks])).length=(preL u.ts).length+(Tree.mk tr tm tks).pre.length:=by
    rw[preL_app];simp[preL]
   refine⟨⟨a3,c3,B3,u.ps++[px],u.ts++[Tree.mk tr tm tks]⟩,sM,?_,by show Bld tPtr F1 a3 (u.ts++[_]).length c3 B3 _;rw[List.length_append];exact hB3,ShL.app hS (.cons hsh0 .nil),by show (u.ts++[_]).length=j+1;simp[hul],by show (preL (u.ts++[_])).length≤_;rw[elen];omega,fun i hi=>?_⟩
   ·show OwnLe ([(i5,Blk.cells false [.int .i64 pk.rule,.int .i64 0,.int .i64 ((1+(preL (u.ts++[Tree.mk tr tm tks])).length:Nat):Int),.slice a3 (u.ts++[Tree.mk tr tm tks]).length c3])]::B3::_) _
    rw[elen,List.length_append,←Nat.add_assoc]
    exact OwnLe.skip _ oR
   ·show ∃k r t,_∧_∧_∧(u.ts++[Tree.mk tr tm tks])[i]?=some t
    rcases Nat.lt_or_ge i j with h1 | h1
    ·obtain⟨k',r',t',e1,e2,e3,e4⟩:=hav i h1
     exact⟨k',r',t',e1,e2,e3,by rw[List.getElem?_append_left zo];exact e4⟩
    ·obtain rfl:i=j:=by omega
     exact⟨k,rj,_,hk,hrj,htt,by rw[List.getElem?_append_right zo,hul,Nat.sub_self];rfl⟩
 ·intro u F1 hF1 hP
  obtain⟨hb,hS,hul,hul2,hav⟩:=hP
  have hl1:=hl.mono hF1
  have hbl:=hb.len
  have hpick:pick s.lists pk.kids c.ranks=some u.ts:=pick_of zo fun i k hk=>by
   obtain⟨k',r',t',e1,e2,e3,e4⟩:=hav i (by have:=(gS hk).1;omega)
   rw[hk] at e1;cases e1
   exact⟨r',t',e2,e3,e4⟩
  have htry:tryS (foOf Ns) s c={ s with q:=s.q++[(c,.mk pk.rule 0 u.ts)] }:=by
   unfold tryS
   simp only[hpk,pick_miss hpick,hpick]
  have epre:(Tree.mk pk.rule 0 u.ts).pre.length=1+(preL u.ts).length:=by
   show (_::preL u.ts).length=_
   rw[List.length_cons,Nat.add_comm]
  refine zB6 ?_
  refine AW.cond Z (fun h=>?_) (fun _=>?_)
  ·exfalso;simp at h
  refine zB6 ?_
  refine WT.freezeAll 0 Z Z (fun F2 hF2 hB2=>?_)
  refine WT.freezeAll 1 Z Z (fun F3 hF3 hB3=>?_)
  have hka3:=(hb.mono hF2).frozen hF3 hB3
  have hi5':=hF3 _ _ (hB2 i5 _ me)
  have hsh:Sh F3 i5 (.mk pk.rule 0 u.ts):=.mk (by rw[epre];exact hi5') hka3 (hS.mono (hF2.trans hF3))
  have hl3:=(hl1.mono hF2).mono hF3
  refine WT.ifaceT hT Z Z Z Z Z Z ?_
  refine zB6 ?_
  refine WT.ifaceT hT Z Z Z Z Z Z ?_
  refine WT.call1F 4 Tryz.func122 Z Z Z Z Z Z Z (fun _=>rfl) (hpush_spec F3 (lrL p) hl3.q zo hl3.qh (x:=(c,.mk pk.rule 0 u.ts)) (l:=candV c (.pointer (some ⟨i5,0,none⟩))) ⟨i5,rfl,hsh,by rw[epre];omega⟩) (fun F4 v B4 hF4 hv=>?_)
  obtain⟨a',c',B5,Q2,rfl,hB5,hp2,hh2⟩:=hv
  refine WT.le (OwnLe.trans (lrB_own' p ⟨a',r.qn+1,c',B5,Q2,r.vs,r.bs,r.pss,r.se,r.sm,r.we,r.wm,r.wbs,r.ws⟩ own) (OwnLe.skip _ (OwnLe.skip _ (OwnLe.skip _ (OwnLe.skip _ oR))))) ?_
  refine zB6 ?_
  have hl4:=hl3.mono hF4
  refine⟨_,[_],rfl,zsb,_,rfl,_,rfl,?_⟩
  rw[htry]
  exact⟨hl4.nodes,hB5,hp2.trans (hl4.qp.append_right _),hh2,hl4.rows,hl4.rlen,hl4.trees,hl4.se,hl4.sl,hl4.we,hl4.wn,hl4.ws,hl4.wg⟩
theorem lfirst_spec(F:Frz){p:LP}{Ns:List Node}{r:LR}{s:Lst}{c:Cand}{done ex:List Cand}(hl:LOk p Ns F r s)(hf:(foOf Ns).Good)(hI:Inv (foOf Ns) p.most s done [] ex)(hc:CandOk (foOf Ns) p.most c)(hTop:∀T,candTree (foOf Ns) s.lists c=some T→∀v,(foOf Ns).leaf v=none→∀x∈s.lists v,tle x T)(hm:p.most≤1000)(hseen:s.seen.length<800000000000)(hNs:Ns.length≤1000000)(t0:Value)(ht0:one t0=true) :
  Abs.Spec CC 71 [.pointer (some ⟨p.li,0,none⟩),.agg ⟨candV c t0⟩] F [lrB p r] fun F' v o=>∃B',o=[B']∧∃r',B'=lrB p r'∧LOk p Ns F' r' (firstS (foOf Ns) s c):=by
 unfold candV
 refine Abs.Spec.fn (n:=20) Tryz.func71 rfl rfl fun own=>?_
 refine AW.seq (AW.reg ?_)
 refine WT.boxT Z Z Z Z Z Z (fun i3 hi3=>?_)
 refine WT.le (OwnLe.cons _ (lrB_own p r own)) ?_
 refine zB6 ?_
 refine WT.lookupT keyC (key:=c) hT 4 hl.se Z Z Z Z Z Z Z me Z Z Z ?_
 rw[hl.sl c]
 by_cases hin:c∈s.seen
 ·rw[if_pos hin]
  refine zB6 ?_
  refine AW.cond Z (fun h=>(by cases h)) (fun _=>?_)
  refine AW.le (OwnLe.trans (lrB_own' p r own) (OwnLe.skip _ oR)) ?_
  refine AW.skip ⟨_,[_],rfl,zsb,_,rfl,r,rfl,?_⟩
  unfold firstS
  rw[if_pos hin]
  exact hl
 ·rw[if_neg hin]
  refine zB6 ?_
  refine AW.cond Z (fun _=>?_) (fun h=>(by cases h))
  refine zB6 ?_
  refine WT.mapSetE keyC (key:=c) hT 4 0 hl.se Z Z Z Z Z Z Z Z Z Z (fun _=>rfl) (fun _=>rfl) (fun es1 hes1=>?_)
  refine zB6 ?_
  have hl1:LOk p Ns F { r with se:=es1,sm:=mset r.sm c (.bool true) } { s with seen:=s.seen++[c] }:=
   ⟨hl.nodes,hl.q,hl.qp,hl.qh,hl.rows,hl.rlen,hl.trees,hes1,fun x=>by
    show Abs.look (mset r.sm c (.bool true)) x=if x∈s.seen++[c] then some (.bool true) else none
    rw[look_mset,hl.sl x]
    by_cases e:x=c
    ·rw[if_pos e,if_pos (by rw[e];simp)]
    ·rw[if_neg e]
     by_cases h2:x∈s.seen
     ·rw[if_pos h2,if_pos (List.mem_append_left _ h2)]
     ·rw[if_neg h2,if_neg (fun h3=>by
       rcases List.mem_append.1 h3 with h3 | h3
       ·exact h2 h3
       ·exact e (List.mem_singleton.1 h3))],hl.we,hl.wn,hl.ws,hl.wg⟩
  refine WT.le (own2:=[(i3,.cells false [.int .i64 c.node,.int .i64 c.pack,.int .i64 c.r0,.int .i64 c.r1,.int .i64 c.r2,.int .i64 c.r3,.pointer none])]::lrB p { r with se:=es1,sm:=mset r.sm c (.bool true) }::own) (OwnLe.cons _ (lrB_own' p { r with se:=es1,sm:=mset r.sm c (.bool true) } own)) ?_
  refine WT.call1F 1 Tryz.func102 Z Z Z Z Z Z Z (fun _=>rfl) (ltry_spec F hl1 hf (hI.pre_ hc hin) hm (by show (s.seen++[c]).length≤_;rw[List.length_append,List.length_singleton];omega) hNs) (fun F4 v B4 hF4 hv=>?_)
  obtain⟨r',rfl,hl4⟩:=hv
  refine WT.le (OwnLe.skip _ oR) ?_
  refine zB4 ?_
  refine⟨_,[_],rfl,zsb,_,rfl,r',rfl,?_⟩
  unfold firstS
  rw[if_neg hin]
  exact hl4
theorem cand_inc{c:Cand}{j r:Nat}{t:Value}(h:c.ranks[j]?=some r):([.int .i64 c.node,.int .i64 c.pack,.int .i64 c.r0,.int .i64 c.r1,.int .i64 c.r2,.int .i64 c.r3,t]:List Value).set (0+2+j*1) (.int .i64 ((r+1:Nat):Int))=candV (c.inc j) t:=by
 match j,h with
 | 0,h=>simp[Cand.ranks] at h;subst h;rfl
 | 1,h=>simp[Cand.ranks] at h;subst h;rfl
 | 2,h=>simp[Cand.ranks] at h;subst h;rfl
 | 3,h=>simp[Cand.ranks] at h;subst h;rfl
 | _+4,h=>simp[Cand.ranks] at h
structure TakeS where
 r:LR
 s:Lst
theorem nodeTk_spec(F:Frz){p:LP}{Ns:List Node}{r:LR}{s:Lst}{c:Cand}{T:Tree}{tp:Nat}{q:List (Cand×Tree)}{done:List Cand}(hl:LOk p Ns F r { s with q:=q })(hf:(foOf Ns).Good)(hI:Inv (foOf Ns) p.most { s with q:=(c,T)::q } done [] [])(hb:BaseIn (foOf Ns) s)(hmin:∀y∈q,tle T y.2)(hsm:T.pre.length≤5000)(hsh:Sh F tp T)
  (hm:p.most≤1000) (hseen:s.seen.length+4<800000000000) (hNs:Ns.length≤1000000) :
  Abs.Spec CC 73 [.pointer (some ⟨p.li,0,none⟩),.agg ⟨candV c (.pointer (some ⟨tp,0,none⟩))⟩] F [lrB p r] fun F' v o=>∃B',o=[B']∧∃r' s',B'=lrB p r'∧LOk p Ns F' r' s'∧Inv (foOf Ns) p.most s' (c::done) [] []∧BaseIn (foOf Ns) s'∧
   (((s.lists c.node).length=p.most∧s'.lists=s.lists∧s'.seen=s.seen)∨((s.lists c.node).length<p.most∧s'.lists=updL s.lists c.node T∧s'.seen.length≤s.seen.length+4)):=by
 have hnl:=hl.nodes.len
 have hcq:=hI.qok (c,T) me
 have hok:CandOk (foOf Ns) p.most c:=hI.ok c hcq.1
 obtain⟨pk,hpk⟩:=hok.pack
 have hcn:c.node<Ns.length:=hok.node
 obtain⟨x,hx⟩:∃x,Ns[c.node]?=some x:=⟨_,gE hcn⟩
 have hpx:x.packs[c.pack]?=some pk:=by
  unfold packAt foOf at hpk
  simpa [hx] using hpk
 have hkid:=hf.kids c.node hok.node pk (gM hpk)
 obtain⟨ps,hps⟩:∃ps,r.pss[c.node]?=some ps:=⟨_,gE (by have:=hl.rlen;omega)⟩
 obtain⟨va,vn,vc,VB,b1,b2,hvk,hbs,hVB,hput⟩:=hl.rows.split hps
 have htr:ShL F ps (s.lists c.node):=hl.trees c.node ps hps
 have hvn:=hVB.len
 have htrl:=htr.len
 have hlen:(s.lists c.node).length≤p.most:=hI.len c.node
 unfold candV
 refine Abs.Spec.fn (n:=101) Tryz.func73 rfl rfl fun own=>?_
 refine AW.seq (AW.reg ?_)
 refine WT.boxT Z Z Z Z Z Z (fun i3 hi3=>?_)
 refine WT.le (OwnLe.cons _ (lrB_own p r own)) ?_
 refine zB6 ?_
 refine WT.idxA (j:=c.node) (s:=1) hT Z Z Z Z Z Z Z Z Z zo ?_
 refine WT.loadAt hT 2 Z Z Z Z Z Z me Z Z (v:=.slice va vn vc) (by rw[Nat.zero_add,Nat.mul_one];exact hvk) ?_
 refine zB6 ?_
 refine AW.cond Z (fun hc=>?_) (fun hc=>?_)
 ·have hc:vn=p.most:=by simp at hc;omega
  refine AW.le (OwnLe.trans (lrB_own' p r own) (OwnLe.skip _ oR)) ?_
  refine AW.ret ⟨_,[_],rfl,zsb,_,rfl,r,{ s with q:=q },rfl,hl,hI.drop (by rw[htrl,←hvn];exact hc),hb,.inl ⟨by rw[htrl,←hvn];exact hc,rfl,rfl⟩⟩
 ·have hc:vn<p.most:=by simp at hc;omega
  have hTk:=hI.take hf hb hmin (by rw[htrl,←hvn];exact hc) hsm
  have hvL:(s.lists c.node).length=vn:=by rw[htrl,←hvn]
  refine zB6 ?_
  rw[hbs]
  refine AW.le (OwnLe.cons _ (OwnLe.cons _ (OwnLe.cons _ (own_wsplit b1 VB b2 _)))) ?_
  refine AW.draw (ps:=[(3,16),(3,17),(5,16),(5,17),(9,16),(11,16),(13,16)]) Z Z ?_
  refine zB6 ?_
  refine WT.idxA (j:=c.node) (s:=1) hT Z Z Z Z Z Z Z Z Z zo ?_
  refine WT.loadAt hT 2 Z Z Z Z Z Z me Z Z (v:=.slice va vn vc) (by rw[Nat.zero_add,Nat.mul_one];exact hvk) ?_
  refine zB6 ?_
  refine WT.buildT hT Z Z Z Z Z Z Z Z Z Z Z Z Z Z (fun i9 hi9=>?_)
  refine WT.appendT (ys:=[tp]) hT 5 hVB Z (fun _=>rfl) Z Z Z Z Z Z Z Z Z Z Z (fun h0 s0=>news_own hT s0 0 Z Z Z Z) (Cells.single (R:=tPtr) (x:=tp) rfl) Z (by decide) zom (fun a3 c3 B3 hB3=>?_)
  skip
  refine WT.idxA (j:=c.node) (s:=1) hT Z Z Z Z Z Z Z Z Z zo ?_
  refine WT.storeAt hT 3 0 Z Z Z Z Z Z Z Z Z Z (by have:=hl.rows.len;have:=hl.rlen;omega) Z Z ?_
  rw[show 0+c.node*1=c.node by omega]
  refine zB6 ?_
  refine⟨zrA,?_⟩
  refine zB6 ?_
  refine WT.allocT hT Z Z Z Z Z Z (fun i5 hi5=>?_)
  refine zB6 ?_
  obtain⟨xa,xn,xc,WB,W1,W2,hlk,hwbs,hWB,_,ws',hdel,hwg'⟩:=hl.ws.slot hl.wn (c.node,vn)
  refine WT.lookupT keyW (key:=(c.node,vn)) hT 8 hl.we Z Z Z Z Z Z Z me Z Z Z ?_
  rw[hlk]
  refine zB6 ?_
  refine WT.deleteE keyW (key:=(c.node,vn)) hT 8 0 hl.we Z Z Z Z Z Z Z Z Z (fun _=>rfl) (fun _=>rfl) (fun es1 hes1=>?_)
  refine zB6 ?_
  have hWL:s.waits (c.node,(s.lists c.node).length)=getW r.ws (c.node,vn):=by rw[hvL];exact hl.wg _
  have hwf:=hI.w_few (c.node,vn)
  rw[show ({ s with q:=(c,T)::q }:Lst).waits (c.node,vn)=getW r.ws (c.node,vn) from hl.wg _] at hwf
  have hwf:(getW r.ws (c.node,vn)).length≤s.seen.length:=hwf
  have hxn:=hWB.len
  obtain⟨kI,kTop,kW,kInc,kM1,kM2⟩:=hTk
  rw[hWL] at kI kW
  have hl1:LOk p Ns F ⟨r.qa,r.qn,r.qc,r.qB,r.Q,r.vs.set c.node (.slice a3 (vn+1) c3),b1++(B3++b2),r.pss.set c.node (ps++[tp]),r.se,r.sm,es1,mdel r.wm (c.node,vn),W1++W2,ws'⟩ (tookS s c T q):=
   ⟨hl.nodes,hl.q,hl.qp,hl.qh,hput a3 (vn+1) c3 B3 _ hB3,by rw[List.length_set];exact hl.rlen,fun v us hv=>by
    show ShL F us (updL s.lists c.node T v)
    have hv:(r.pss.set c.node (ps++[tp]))[v]?=some us:=hv
    by_cases e:v=c.node
    ·subst e
     rw[List.getElem?_set_self (gS hps).1] at hv
     cases hv
     rw[updL_same]
     exact ShL.app htr (.cons hsh .nil)
    ·rw[List.getElem?_set_ne (fun e2=>e e2.symm)] at hv
     rw[updL_ne _ _ e]
     exact hl.trees v us hv,hl.se,hl.sl,hes1,nodup_mdel hl.wn,hdel,fun w=>by
    show (if w=(c.node,(s.lists c.node).length) then [] else s.waits w)=getW ws' w
    rw[hwg' w,hvL]
    split
    ·rfl
    ·exact hl.wg w⟩
  refine AW.range (S:=TakeS) (fun _=>[]) (fun u=>[(i3,.cells false [.int .i64 c.node,.int .i64 c.pack,.int .i64 c.r0,.int .i64 c.r1,.int .i64 c.r2,.int .i64 c.r3,.pointer (some ⟨tp,0,none⟩)])]::lrB p u.r::WB::own)
   (fun j u G=>LOk p Ns G u.r u.s∧Inv (foOf Ns) p.most u.s (c::done) ((getW r.ws (c.node,vn)).drop j) [c]∧u.s.lists=(tookS s c T q).lists∧u.s.seen=s.seen) xn ⟨_,_⟩
   Z Z Z Z Z Z Z Z Z zo rfl rfl (fun _=>rfl) (fun _=>rfl) sM ?_ ⟨hl1,by rw[List.drop_zero];exact kI,rfl,rfl⟩ ?_ ?_
  ·refine OwnLe.trans (OwnLe.cons _ (lrB_own' p _ (WB::own))) ?_
   refine OwnLe.trans (OwnLe.cons _ (OwnLe.cons _ (OwnLe.cons _ (own_wjoin b1 B3 b2 _)))) ?_
   rw[hwbs]
   exact OwnLe.skip _ (OwnLe.skip _ (OwnLe.cons _ (OwnLe.cons _ (OwnLe.cons _ (OwnLe.cons _ (OwnLe.cons _ (OwnLe.cons _ (OwnLe.cons _ (own_wsplit W1 WB W2 own)))))))))
  ·intro j u F1 hF1 hj hP
   obtain⟨ul,uI,uL,uS⟩:=hP
   obtain⟨d,hd⟩:∃d,(getW r.ws (c.node,vn))[j]?=some d:=⟨_,gE zo⟩
   have hWB1:GB tCN F1 xa xn xc WB (getW r.ws (c.node,vn)):=(bldC hWB).gb
   have hdrop:(getW r.ws (c.node,vn)).drop j=d::(getW r.ws (c.node,vn)).drop (j+1):=by
    obtain⟨h1,h2⟩:=gS hd
    rw[List.drop_eq_getElem_cons h1,h2]
   rw[hdrop] at uI
   refine zB6 ?_
   refine WT.gidx hT hWB1 Z Z Z Z Z Z Z Z Z hj (fun b7 hb7=>?_)
   refine WT.gldS hT 2 hWB1 hb7 hd Z Z Z Z Z Z (fun z hz=>hz) Z Z Z (fun l hl7=>?_)
   obtain rfl:l=candV d (.pointer none):=hl7
   unfold candV
   skip
   refine WT.allocT hT Z Z Z Z Z Z (fun i8 hi8=>?_)
   refine zB6 ?_
   refine WT.call1F 2 Tryz.func102 Z Z Z Z Z Z Z (fun _=>rfl) (ltry_spec F1 ul hf uI hm (by rw[uS];omega) hNs) (fun F4 v B4 hF4 hv=>?_)
   obtain⟨r',rfl,hl4⟩:=hv
   refine zB6 ?_
   have htl:=try_lists (foOf Ns) u.s d
   refine⟨⟨r',tryS (foOf Ns) u.s d⟩,sM,OwnLe.skip _ oR,hl4,uI.try_ hf (fun U hU v hv x hx=>?_),htl.1.trans uL,htl.2.trans uS⟩
   rw[uL] at hU hx
   exact .inl (wle_wlt (kTop v hv x hx) (kW d (gM hd) U hU))
  ·intro u F1 hF1 hP
   obtain⟨ul,uI,uL,uS⟩:=hP
   rw[List.drop_of_length_le zo] at uI
   have ul1:=ul.nodes
   have hlens:u.r.qn=u.r.qn:=rfl
   refine zB6 ?_
   refine WT.le (OwnLe.cons _ (lrB_own p u.r (WB::own))) ?_
   skip
   refine WT.idxL hT ul1 Z Z Z Z Z Z Z Z Z zo (fun z hz b7 off7 ro7 cs7 lx7 hb7 hp7 hrel7=>?_)
   rw[hx] at hz;cases hz
   obtain⟨pa,pn,pc,rfl,hpa⟩:=hrel7
   have hpal:=hpa.len
   refine zB6 ?_
   refine WT.idxL hT hpa Z Z Z Z Z Z Z Z Z (by have:=(gS hpx).1;omega) (fun z hz b8 off8 ro8 cs8 lx8 hb8 hp8 hrel8=>?_)
   rw[hpx] at hz;cases hz
   obtain⟨ka,kn,kc,rfl,hka,hkl⟩:=hrel8
   have hkal:=hka.len
   clear hb7 hp7
   refine zB6 ?_
   refine AW.range (S:=TakeS) (fun _=>[]) (fun z=>[(i3,.cells false [.int .i64 c.node,.int .i64 c.pack,.int .i64 c.r0,.int .i64 c.r1,.int .i64 c.r2,.int .i64 c.r3,.pointer (some ⟨tp,0,none⟩)])]::lrB p z.r::WB::own)
    (fun j z G=>LOk p Ns G z.r z.s∧Inv (foOf Ns) p.most z.s (c::done) [] [c]∧z.s.lists=(tookS s c T q).lists∧(∀d∈s.seen,d∈z.s.seen)∧z.s.seen.length≤s.seen.length+j∧∀i,i<j→c.inc i∈z.s.seen) kn ⟨u.r,u.s⟩
    Z Z Z Z Z Z Z Z Z zo rfl rfl (fun _=>rfl) (fun _=>rfl) sM (OwnLe.cons _ (lrB_own' p u.r (WB::own))) ⟨ul,uI,uL,fun d hd=>by rw[uS];exact hd,by rw[uS];exact Nat.le_refl _,fun i hi=>by omega⟩ ?_ ?_
   ·intro j z F2 hF2 hj hQ
    obtain⟨yl,yI,yL,yS,yn,yi⟩:=hQ
    have hj4:j<4:=by omega
    obtain⟨rj,hrj⟩:∃rj,c.ranks[j]?=some rj:=⟨_,gE (by show j<4;exact hj4)⟩
    have hrjm:=hok.rank rj (gM hrj)
    obtain⟨hci,hcT⟩:=kInc pk hpk j zo
    refine zB6 ?_
    refine WT.allocT hT Z Z Z Z Z Z (fun i10 hi10=>?_)
    refine zB6 ?_
    refine WT.idxArr (j:=j) (s:=1) (len:=4) hT Z Z Z Z Z Z Z Z Z hj4 ?_
    refine WT.loadAt hT 0 Z Z Z Z Z Z me Z Z (cand_rank hrj) ?_
    refine zC6 ?_
    refine WT.idxArr (j:=j) (s:=1) (len:=4) hT Z Z Z Z Z Z Z Z Z hj4 ?_
    refine WT.storeAt hT 0 0 Z Z Z Z Z Z Z Z Z Z (by show 0+2+j*1<7;omega) Z Z ?_
    rw[cand_inc hrj]
    unfold candV
    refine zB6 ?_
    refine WT.call1F 2 Tryz.func71 Z Z Z Z Z Z Z (fun _=>rfl) (lfirst_spec F2 yl hf yI hci (fun U hU v hv x hx=>by
     rw[yL] at hU hx
     exact .inl (wle_wlt (kTop v hv x hx) (hcT U hU))) hm zo hNs (.pointer (some ⟨tp,0,none⟩)) rfl) (fun F4 v B4 hF4 hv=>?_)
    obtain⟨r',rfl,hl4⟩:=hv
    refine zB6 ?_
    obtain⟨f1,f2,f3,f4⟩:=first_lists (foOf Ns) z.s (c.inc j)
    refine⟨⟨r',firstS (foOf Ns) z.s (c.inc j)⟩,sM,OwnLe.skip _ oR,hl4,yI.first_ hf hci (fun U hU v hv x hx=>?_),f1.trans yL,fun d hd=>f2 d (yS d hd),by show (firstS (foOf Ns) z.s (c.inc j)).seen.length≤s.seen.length+(j+1);omega,fun i hi=>?_⟩
    ·rw[yL] at hU hx
     exact .inl (wle_wlt (kTop v hv x hx) (hcT U hU))
    ·rcases Nat.lt_or_ge i j with h1 | h1
     ·exact f2 _ (yi i h1)
     ·obtain rfl:i=j:=by omega
      exact f3
   ·intro z F2 hF2 hQ
    obtain⟨yl,yI,yL,yS,yn,yi⟩:=hQ
    refine⟨_,[_],rfl,List.Sublist.cons _ (List.Sublist.cons_cons _ (List.Sublist.cons _ (List.Sublist.refl _))),_,rfl,z.r,z.s,rfl,yl,yI.close (T:=T) (by rw[yL];exact kM1) (by rw[yL];exact kM2) (fun p' hp' i hi=>?_),fun v hv hl' a ha=>yS _ (hb v hv hl' a ha),.inr ⟨by rw[hvL];exact hc,yL,by omega⟩⟩
    rw[hpk] at hp';cases hp'
    exact yi i zo
def tTC:Ty (List Value) where
 size:=3
 rel:=fun _ l x=>l=x∧x.length=3∧x.all Go.Abs.one=true
 len:=fun _ _ _ h=>by rw[h.1];exact h.2.1
 one:=fun _ _ _ h=>by rw[h.1];exact h.2.2
 mono:=fun _ _ _ _ _ h=>h
def E0:Frz:=fun _=>none
theorem cellsT{F G:Frz}{cs:List Value}{ps:List (List Value)}(h:Cells tTC F cs ps):Cells tTC G cs ps:=by
 induction h with
 | nil=>exact .nil
 | cons h _ ih=>exact .cons h ih
theorem bldT{F G:Frz}{a:Option Addr}{n c:Nat}{B:List (Nat×Blk)}{ps:List (List Value)}(h:Bld tTC F a n c B ps):Bld tTC G a n c B ps:=
 ⟨h.len,h.at_.imp id fun ⟨i,cs,h1,h2,h3,h4,h5⟩=>⟨i,cs,h1,h2,h3,cellsT h4,h5⟩⟩
mutual
inductive TOwn:List Value→List (Nat×Blk)→Tree→Prop
 | mk {r:Int} {t:Nat} {ks:List Tree} {a:Option Addr} {n c:Nat} {B bs:List (Nat×Blk)} {css:List (List Value)}:Bld tTC E0 a n c B css→TOwnL css bs ks→ks.length≤1000000→TOwn [.int .i64 r,.int .i64 t,.slice a n c] (B++bs) (.mk r t ks)
inductive TOwnL:List (List Value)→List (Nat×Blk)→List Tree→Prop
 | nil:TOwnL [] [] []
 | cons {cs:List Value} {B:List (Nat×Blk)} {t:Tree} {css:List (List Value)} {bs:List (Nat×Blk)} {ts:List Tree}:TOwn cs B t→TOwnL css bs ts→TOwnL (cs::css) (B++bs) (t::ts)
end
theorem TOwn.shape{cs:List Value}{B:List (Nat×Blk)}{t:Tree}(h:TOwn cs B t):cs.length=3∧cs.all Go.Abs.one=true:=by
 cases h;exact⟨rfl,rfl⟩
theorem TOwnL.len:∀{css:List (List Value)} {bs:List (Nat×Blk)} {ts:List Tree},TOwnL css bs ts→css.length=ts.length
 | _,_,_,.nil=>rfl
 | _,_,_,.cons _ h=>by simp[TOwnL.len h]
theorem TOwnL.snoc{cs:List Value}{B:List (Nat×Blk)}{t:Tree}(h:TOwn cs B t):∀{css:List (List Value)} {bs:List (Nat×Blk)} {ts:List Tree},TOwnL css bs ts→TOwnL (css++[cs]) (bs++B) (ts++[t])
 | _,_,_,.nil=>by simpa using TOwnL.cons h .nil
 | _,_,_,.cons h1 h2=>by
  rw[List.append_assoc]
  exact .cons h1 (TOwnL.snoc h h2)
mutual
theorem TOwn.frozen{G:Frz}:∀{t:Tree} {cs:List Value} {B:List (Nat×Blk)},TOwn cs B t→(∀i b,(i,b)∈B→G i=some b)→tTree.rel G cs t
 | .mk _ _ ks,_,_,.mk hb hL hk,hB=>tTree_mk (TOwnL.frozen hb hL (fun i b hm=>hB i b (List.mem_append_left _ hm)) (fun i b hm=>hB i b (List.mem_append_right _ hm))) hk
theorem TOwnL.cells{G:Frz}:∀{ts:List Tree} {css:List (List Value)} {bs:List (Nat×Blk)} {cs:List Value},Cells tTC E0 cs css→TOwnL css bs ts→(∀i b,(i,b)∈bs→G i=some b)→Cells tTree G cs ts
 | [],_,_,_,hc,.nil,_=>by cases hc;exact .nil
 | t::ts,_,_,_,hc,.cons h1 h2,hB=>by
  cases hc with
  | cons g1 g2=>
   obtain⟨rfl,_⟩:=g1
   exact .cons (TOwn.frozen h1 fun i b hm=>hB i b (List.mem_append_left _ hm)) (TOwnL.cells g2 h2 fun i b hm=>hB i b (List.mem_append_right _ hm))
theorem TOwnL.frozen{G:Frz}:∀{ts:List Tree} {css:List (List Value)} {bs:List (Nat×Blk)} {a:Option Addr} {n c:Nat} {B:List (Nat×Blk)},Bld tTC E0 a n c B css→TOwnL css bs ts→(∀i b,(i,b)∈B→G i=some b)→(∀i b,(i,b)∈bs→G i=some b)→Arr tTree G a n c ts
 | ts,css,bs,a,n,c,B,hb,hL,hB,hB2=>by
  have hl:=hb.len
  have hl2:=hL.len
  have:Bld tTree G a n c B ts:=⟨by omega,hb.at_.imp (fun ⟨h1,h2,h3,h4⟩=>⟨List.eq_nil_of_length_eq_zero (by rw[←hl2,h1];rfl),h2,h3,h4⟩) fun ⟨i,cs,h1,h2,h3,h4,h5⟩=>⟨i,cs,h1,h2,h3,TOwnL.cells h4 hL hB2,by decide⟩⟩
  exact this.frozen (Frz.le.refl G) hB
end
theorem leafOwn_spec(F:Frz)(t:Nat):Abs.Spec CC 65 [.int .i64 t] F [] fun F' v o=>o=[]∧v=.agg ⟨[.int .i64 (-1),.int .i64 t,.slice none 0 0]⟩:=by
 refine Abs.Spec.fn (n:=5) Tryz.func65 rfl rfl fun own=>?_
 refine AW.seq (AW.reg ?_)
 refine WT.allocT hT Z Z Z Z Z Z (fun i2 hi2=>?_)
 refine zB4 ?_
 exact AW.ret ⟨_,[],⟨_,_,⟨_,rfl,fun G h0 s0=>loadA_cells (s0.has (p:=0) rfl me) (readT_ok hT rfl)⟩,rfl,rfl⟩,zsb,rfl,rfl⟩
inductive Plain:Tree→Prop
 | leaf {t:Nat}:Plain (.mk (-1) t [])
 | node {r:Nat} {ks:List Tree}:(∀k∈ks,Plain k)→Plain (.mk r 0 ks)
mutual
theorem NT.plain{f:Fo}:∀{T:Tree} {v:Nat},NT f v T→Plain T
 | .mk _ _ _,_,.leaf _ _=>.leaf
 | .mk _ _ _,_,.node _ _ _ h=>.node (NTs.plain h)
theorem NTs.plain{f:Fo}:∀{ts:List Tree} {ks:List Nat},NTs f ks ts→∀t∈ts,Plain t
 | [],_,_,t,h=>by cases h
 | t0::ts,_,.cons h1 h2,t,h=>by
  rcases List.mem_cons.1 h with e | h
  ·rw[e];exact NT.plain h1
  ·exact NTs.plain h2 t h
end
theorem perm_cpT{α:Type}(x a b c l:List α):(x++(a++(b++(c++l)))).Perm (a++(b++(c++(x++l)))):=by
 have h:=(List.perm_append_comm (l₁:=x) (l₂:=a++(b++c))).append_right l
 simpa [List.append_assoc] using h
structure PlS where
 a:Option Addr
 c:Nat
 B:List (Nat×Blk)
 css:List (List Value)
 bs:List (Nat×Blk)
theorem plain_spec:∀(N:Nat) (T:Tree),T.pre.length<N→Plain T→T.pre.length≤100000→∀(F:Frz) (p:Nat),Sh F p T→
  Abs.Spec CC 74 [.pointer (some ⟨p,0,none⟩)] F [] fun F' v o=>∃B',o=[B']∧∃cs,v=.agg ⟨cs⟩∧TOwn cs B' T
 | 0,_,h,_,_,_,_,_=>by omega
 | N+1,T,hN,hp,hT1,F,p,hs=>by
  cases hp with
  | @leaf t=>
   cases hs with
   | @mk _ _ _ _ a n c ps g1 g2 g3=>
   refine Abs.Spec.fn (n:=39) Tryz.func74 rfl rfl fun own=>?_
   refine AW.seq (AW.reg ?_)
   refine WT.allocT hT Z Z Z Z Z Z (fun i2 hi2=>?_)
   refine zB4 ?_
   refine AW.cond Z (fun _=>?_) (fun h=>(by cases h))
   refine zB4 ?_
   refine WT.callV Tryz.func65 Z Z Z Z Z Z (leafOwn_spec _ t) (fun v hv=>?_)
   subst hv
   refine zB4 ?_
   refine AW.le (own2:=[]::[(i2,.cells false [.int .i64 (-1),.int .i64 t,.slice none 0 0])]::own) (OwnLe.flat (List.Perm.refl _)) ?_
   exact AW.ret ⟨_,[[]],⟨_,_,⟨_,rfl,fun G h0 s0=>loadA_cells (s0.has (p:=1) rfl me) (readT_ok hT rfl)⟩,rfl,rfl⟩,List.Sublist.cons_cons _ (List.Sublist.cons _ (List.Sublist.refl _)),_,rfl,_,rfl,TOwn.mk (B:=[]) (bs:=[]) (Bld.nil_ _ _) .nil (by simp)⟩
  | @node r ks hks=>
   cases hs with
   | @mk _ _ _ _ a n c ps g1 g2 g3=>
   have hal:=g2.len
   have hsl:=g3.len
   have hkl:=preL_ge ks
   have hpe:(Tree.mk (r:Int) 0 ks).pre.length=(preL ks).length+1:=rfl
   refine Abs.Spec.fn (n:=39) Tryz.func74 rfl rfl fun own=>?_
   refine AW.seq (AW.reg ?_)
   refine WT.allocT hT Z Z Z Z Z Z (fun i2 hi2=>?_)
   refine zB4 ?_
   refine AW.cond Z (fun h=>?_) (fun _=>?_)
   ·exfalso;simp at h;omega
   refine zB4 ?_
   refine WT.allocT hT Z Z Z Z Z Z (fun i3 hi3=>?_)
   refine zB4 ?_
   refine AW.range (S:=PlS) (fun _=>[]) (fun s=>s.B::[(i3,.cells false [.int .i64 r,.int .i64 0,.slice s.a s.css.length s.c])]::s.bs::[(i2,.cells false [.int .i64 0,.int .i64 0,.slice none 0 0])]::own)
    (fun j s G=>Bld tTC E0 s.a s.css.length s.c s.B s.css∧TOwnL s.css s.bs (ks.take j)) n ⟨none,0,[],[],[]⟩
    Z Z Z Z Z Z Z Z Z zo rfl rfl (fun _=>rfl) (fun _=>rfl) sM (OwnLe.flat (List.Perm.refl _)) ⟨Bld.nil_ _ _,.nil⟩ ?_ ?_
   ·intro j s F1 hF1 hj hP
    obtain⟨hb,hL⟩:=hP
    have hLl:=hL.len
    rw[List.length_take] at hLl
    have g2':=g2.mono hF1
    obtain⟨k,hk⟩:∃k,ks[j]?=some k:=⟨_,gE zo⟩
    have hkm:=gM hk
    have hkp:=preL_mem hkm
    refine zB4 ?_
    refine WT.idxL hT g2' Z Z Z Z Z Z Z Z Z zo (fun q hq b9 off9 ro9 cs9 lx9 hb9 hp9 hrel9=>?_)
    obtain rfl:lx9=_:=hrel9
    have hsq:=(g3.at_ hq hk).mono hF1
    refine zB4 ?_
    refine AW.draw (ps:=[(1,3),(1,4)]) Z Z ?_
    refine zB4 ?_
    refine WT.callN Tryz.func74 Z Z Z Z Z Z (plain_spec N k zo (hks k hkm) zo F1 q hsq) (fun F2 v B2 hF2 hv=>?_)
    obtain⟨cs,rfl,hcs⟩:=hv
    obtain⟨hc3,hc1⟩:=hcs.shape
    obtain⟨x1,x2,x3,rfl⟩:∃x1 x2 x3,cs=[x1,x2,x3]:=by
     match cs,hc3 with
     | [x1,x2,x3],_=>exact⟨x1,x2,x3,rfl⟩
    skip
    refine WT.buildT hT Z Z Z Z Z Z Z Z Z Z Z Z Z Z (fun i9 hi9=>?_)
    refine WT.appendT (R:=tTC) (ys:=[[x1,x2,x3]]) hT 2 (bldT hb) Z (fun _=>rfl) Z Z Z Z Z Z Z Z Z Z Z (fun h0 s0=>news_own hT s0 0 Z Z Z Z) (Cells.single (R:=tTC) ⟨rfl,rfl,hc1⟩) Z (by decide) zom (fun a3 c3 B3 hB3=>?_)
    refine zB4 ?_
    refine⟨zrA,?_⟩
    refine⟨⟨a3,c3,B3,s.css++[[x1,x2,x3]],s.bs++B2⟩,sM,?_,by show Bld tTC E0 a3 (s.css++[[x1,x2,x3]]).length c3 B3 _;rw[List.length_append];exact bldT hB3,by rw[List.take_add_one,hk];exact hL.snoc hcs⟩
    ·show OwnLe (B3::[(i3,.cells false [.int .i64 r,.int .i64 0,.slice a3 (s.css++[[x1,x2,x3]]).length c3])]::(s.bs++B2)::_) _
     rw[List.length_append]
     refine OwnLe.skip _ (OwnLe.flat ?_)
     simp only[List.flatten_cons,List.append_assoc]
     exact perm_cpT _ _ _ _ _
   ·intro s F1 hF1 hP
    obtain⟨hb,hL⟩:=hP
    rw[List.take_of_length_le zo] at hL
    refine zB4 ?_
    refine AW.le (own2:=[(i2,.cells false [.int .i64 r,.int .i64 0,.slice s.a s.css.length s.c])]::(s.B++s.bs)::own) (OwnLe.trans (OwnLe.flat ?_) (OwnLe.cons _ (OwnLe.skip _ oR))) ?_
    ·have:=List.perm_middle (a:=(i2,Blk.cells false [.int .i64 r,.int .i64 0,.slice s.a s.css.length s.c])) (l₁:=s.B++s.bs) (l₂:=own.flatten)
     simpa [List.append_assoc] using this
    refine AW.ret ⟨_,[_],⟨_,_,⟨_,rfl,fun G h0 s0=>loadA_cells (s0.has (p:=0) Z me) (readT_ok hT rfl)⟩,rfl,rfl⟩,List.Sublist.cons _ (List.Sublist.refl _),_,rfl,_,rfl,TOwn.mk hb hL zo⟩
def ResOk(g:Gram)(w:List Nat)(F:Frz)(s:Sym)(i:Nat)(v:Value):Prop:=
 v=.agg ⟨[.pointer none,.int .i64 (-1)]⟩∨∃b ro cs t j,v=.agg ⟨[.pointer (some ⟨b,0,none⟩),.int .i64 (j:Nat)]⟩∧F b=some (.cells ro cs)∧tTree.rel F cs t∧TreeOf g w s t i j
theorem ResOk.mono{g:Gram}{w:List Nat}{F G:Frz}{s:Sym}{i:Nat}{v:Value}(h:ResOk g w F s i v)(hF:Frz.le F G):ResOk g w G s i v:=by
 rcases h with h | ⟨b,ro,cs,t,j,h1,h2,h3,h4⟩
 ·exact .inl h
 ·exact .inr ⟨b,ro,cs,t,j,h1,hF _ _ h2,tTree.mono _ _ _ _ hF h3,h4⟩
def MemoOk(g:Gram)(w:List Nat)(F:Frz)(es:Ents (Nat×Nat)):Prop:=∀n i v,Abs.look es (n,i)=some v→ResOk g w F ⟨false,n⟩ i v
theorem MemoOk.mono{g:Gram}{w:List Nat}{F G:Frz}{es:Ents (Nat×Nat)}(h:MemoOk g w F es)(hF:Frz.le F G):MemoOk g w G es:=fun n i v q=>(h n i v q).mono hF
structure PA where
 p:Nat
 im:Nat
 a:Option Addr
 m:Nat
 c:Nat
 b:Option Addr
 k:Nat
 d:Nat
structure ParserAt(F:Frz)(x:PA)(g:Gram)(w:List Nat):Prop where
 blk:∃ro,F x.p=some (.cells ro [.int .i64 g.terms,.int .i64 g.nons,.int .i64 g.start,.slice x.a x.m x.c,.slice x.b x.k x.d,.map (some x.im)])
 rules:Arr tRule F x.a x.m x.c g.rules
 word:Arr tNat F x.b x.k x.d w
theorem ParserAt.mono{F G:Frz}{x:PA}{g:Gram}{w:List Nat}(h:ParserAt F x g w)(hF:Frz.le F G):ParserAt G x g w:=
 ⟨let ⟨ro,q⟩:=h.blk;⟨ro,hF _ _ q⟩,h.rules.mono hF,h.word.mono hF⟩
def Memo(g:Gram)(w:List Nat)(x:PA)(F:Frz)(B:List (Nat×Blk)):Prop:=∃es,B=[(x.im,.map (entsV keyP es))]∧MemoOk g w F es
theorem Memo.mono{g:Gram}{w:List Nat}{x:PA}{F G:Frz}{B:List (Nat×Blk)}(h:Memo g w x F B)(hF:Frz.le F G):Memo g w x G B:=by
 obtain⟨es,e,h⟩:=h;exact⟨es,e,h.mono hF⟩
def meetQ{S:Type}(kn:S→Kno)(ow:S→Own)(P:S→Frz→Prop)(A:Ex→Kno→Frz→Own→Prop):Ex→Kno→Frz→Own→Prop
 | .normal,k',F',own'=>∃s,SubK (kn s) k'∧OwnLe (ow s) own'∧P s F'
 | x,k',F',own'=>A x k' F' own'
theorem joinT{C:Ctx}{n:Nat}{k:Kno}{F:Frz}{own:Own}{A:Ex→Kno→Frz→Own→Prop}{S:Type}(kn:S→Kno)(ow:S→Own)(P:S→Frz→Prop){a b:Code}(h1:AW C n a k F own (meetQ kn ow P A))
  (h2:∀s F',Frz.le F F'→P s F'→AW C n b (kn s) F' (ow s) A):AW C n a k F own (thenQ (fun k' F' own'=>AW C n b k' F' own' A) A):=by
 refine AW.mono h1 fun x k' F' own' hF hx=>?_
 cases x with
 | normal=>
  obtain⟨s,q1,q2,q3⟩:=hx
  exact AW.weaken q1 (AW.le q2 (h2 s F' hF q3))
 | exit id=>exact hx
 | ret=>exact hx
theorem joinK{C:Ctx}{n:Nat}{k:Kno}{F:Frz}{own:Own}{A:Ex→Kno→Frz→Own→Prop}{S:Type}(chg:S→Kno)(ow:S→Own)(P:S→Frz→Prop){a b:Code}(h1:AW C n a k F own (joinQ chg k ow P A))
  (h2:∀s F',Frz.le F F'→P s F'→AW C n b (chg s++k) F' (ow s) A):AW C n a k F own (thenQ (fun k' F' own'=>AW C n b k' F' own' A) A):=
 joinT (fun s=>chg s++k) ow P h1 h2
theorem storeS{C:Ctx}{T:RT}(hT:rowsOk C T=true){n:Nat}{k:Kno}{F:Frz}{own:Own}{ops rest:List Oper}{o:Oper}{Q:Kno→Frz→Own→List Rec→Prop}(p q:Nat){B B':List (Nat×Blk)}{own':Own}{t:TypeId}{a x:Operand}{i off m:Nat}{cs:List Value}{v:Value}(hop:o.op=.store t a x)(hw:wantK ops k o=some true)(hd:o.dst=none)(ha:evK C k a=some (.pointer (some ⟨i,off,none⟩)))
  (hx:evK C k x=some v) (hp:own[p]?=some B) (hq:B[q]?=some (i,.cells false cs)) (hm:sizeT T t=some m) (hl:v.cells.toList.length=m) (h1:v.cells.toList.all one=true) (hlt:off+m≤cs.length)
  (hB:B.set q (i,.cells false (spliceL cs off v.cells.toList))=B') (ho:setO own p B'=some own')
  (h:WT C n ops rest k F own' (fun k2 F2 own2 rs=>Q k2 F2 own2 (⟨F,own,F,own',[i]⟩::rs))) :
  WT C n ops (o::rest) k F own Q:=by
 have e2:=setO_ok _ _ _ _ ho
 subst hB
 subst e2
 exact WT.store (C:=C) (n:=n) (k:=k) (F:=F) (Q:=Q) (rest:=rest) (ops:=ops) p q hop hw ha hx hp hq (sizeT_ok hT hm) hl h1 hlt (by rw[hd];exact h)
structure PI where
 ks:List Tree
 a:Option Addr
 c:Nat
 Bk:List (Nat×Blk)
 B:List (Nat×Blk)
 e:Int
 l:Nat
structure PO where
 q:Option Addr
 e:Int
 B:List (Nat×Blk)
def initS(f:Fo)(j:Nat):Lst:=⟨fun v=>if v<j then (match f.leaf v with | some t=>[.mk (-1) t []] | none=>[]) else [],[],fun _=>[],[]⟩
theorem init_mem{f:Fo}{j v:Nat}{T:Tree}(h:T∈(initS f j).lists v):v<j∧∃t,f.leaf v=some t∧T=.mk (-1) t []:=by
 unfold initS at h
 simp only at h
 split at h
 ·rename_i hv
  split at h
  ·rename_i t ht
   exact⟨hv,t,ht,List.mem_singleton.1 h⟩
  ·cases h
 ·cases h
theorem init_none{f:Fo}{j v:Nat}(h:f.leaf v=none):(initS f j).lists v=[]:=by
 rw[List.eq_nil_iff_forall_not_mem]
 intro T hT
 obtain⟨_,t,ht,_⟩:=init_mem hT
 rw[h] at ht;cases ht
theorem init_skip{f:Fo}{j:Nat}(h:f.leaf j=none):initS f (j+1)=initS f j:=by
 unfold initS
 simp only[Lst.mk.injEq,and_true]
 funext v
 by_cases e:v=j
 ·subst e
  rw[if_pos (Nat.lt_succ_self _),if_neg (Nat.lt_irrefl _),h]
 ·by_cases h2:v<j
  ·rw[if_pos h2,if_pos zo]
  ·rw[if_neg h2,if_neg zo]
theorem init_at{f:Fo}{j t:Nat}(h:f.leaf j=some t):(initS f (j+1)).lists j=[.mk (-1) t []]:=by
 unfold initS
 simp only
 rw[if_pos (Nat.lt_succ_self _),h]
theorem init_ne{f:Fo}{j v:Nat}(h:v≠j):(initS f (j+1)).lists v=(initS f j).lists v:=by
 unfold initS
 simp only
 by_cases h2:v<j
 ·rw[if_pos h2,if_pos zo]
 ·rw[if_neg h2,if_neg zo]
theorem init_len(f:Fo)(j v:Nat):((initS f j).lists v).length≤1:=by
 unfold initS
 simp only
 split
 ·split<;>simp
 ·simp
theorem init_inv(f:Fo){most:Nat}(hm:1≤most):Inv f most (initS f f.n) [] [] [] where
 ok:=fun c hc=>by cases hc
 snd:=List.nodup_nil
 dsub:=fun c hc=>by cases hc
 psub:=fun c hc=>by cases hc
 dnd:=List.nodup_nil
 pnd:=List.nodup_nil
 qnd:=List.nodup_nil
 wnd:=fun _=>List.nodup_nil
 dq:=fun c hc=>by cases hc
 pq:=fun c hc=>by cases hc
 qw:=fun c hc=>by cases hc
 qok:=fun c hc=>by cases hc
 wok:=fun w c hc=>by cases hc
 cover:=fun c hc=>by cases hc
 next:=fun c hc=>by cases hc
 leafs:=fun v t hv ht=>by
  unfold initS
  simp only
  rw[if_pos hv,ht]
 from_:=fun v hv T hT=>by rw[init_none hv] at hT;cases hT
 len:=fun v=>by have:=init_len f f.n v;omega
 sorted:=fun v=>by
  have h:=init_len f f.n v
  match (initS f f.n).lists v,h with
  | [],_=>exact .nil
  | [a],_=>exact List.pairwise_singleton _ _
  | _::_::_,h=>simp at h
 ord:=fun v hv x hx y hy=>by cases hy
 valid:=fun v T hT=>by
  obtain⟨h1,t,h2,rfl⟩:=init_mem hT
  exact .leaf h1 h2
 full:=fun v hv hl=>by rw[init_none hv] at hl;simp at hl;omega
 small:=fun v T hT=>by
  obtain⟨h1,t,h2,rfl⟩:=init_mem hT
  show ([(-1:Int)]++[]).length≤5000
  simp
def tot(L:Nat→List Tree)(n:Nat):Nat:=((List.range n).map fun v=>(L v).length).sum
theorem tot_le{L:Nat→List Tree}{most:Nat}(h:∀v,(L v).length≤most):∀n,tot L n≤n*most
 | 0=>by simp[tot]
 | n+1=>by
  have ih:=tot_le h n
  have:=h n
  unfold tot at ih ⊢
  rw[List.range_succ,List.map_append,List.sum_append,Nat.add_mul]
  simp
  omega
theorem tot_upd(L:Nat→List Tree){v:Nat}(T:Tree):∀n,tot (updL L v T) n=tot L n+(if v<n then 1 else 0)
 | 0=>by simp[tot]
 | n+1=>by
  have ih:=tot_upd L (v:=v) T n
  unfold tot at ih ⊢
  rw[List.range_succ,List.map_append,List.sum_append,List.map_append,List.sum_append,ih]
  simp only[List.map_cons,List.map_nil,List.sum_cons,List.sum_nil,Nat.add_zero]
  by_cases e:n=v
  ·subst e
   rw[updL_same,List.length_append,if_neg (Nat.lt_irrefl _),if_pos (Nat.lt_succ_self _)]
   simp;omega
  ·rw[updL_ne _ _ e]
   by_cases h:v<n
   ·rw[if_pos h,if_pos zo];omega
   ·rw[if_neg h,if_neg zo];omega
theorem rowsP_rep(F:Frz):∀n,RowsP F (List.replicate n (.slice none 0 0)) [] (List.replicate n [])
 | 0=>.nil
 | n+1=>by
  have:=RowsP.cons (Bld.nil_ tPtr F) (rowsP_rep F n)
  simpa [List.replicate_succ] using this
def pks(Ns:List Node)(j:Nat):Nat:=((Ns.take j).map fun x=>x.packs.length).sum
theorem pks_succ{Ns:List Node}{j:Nat}{x:Node}(h:Ns[j]?=some x):pks Ns (j+1)=pks Ns j+x.packs.length:=by
 unfold pks
 rw[List.take_add_one,h,List.map_append,List.sum_append]
 simp
theorem pks_mono{Ns:List Node}{j k:Nat}(h:j≤k):pks Ns j≤pks Ns k:=by
 induction k with
 | zero => obtain rfl : j = 0 := by omega
           exact Nat.le_refl _
 | succ k ih=>
  rcases Nat.lt_or_ge j (k+1) with h2 | h2
  ·refine Nat.le_trans (ih zo) ?_
   cases hx:Ns[k]? with
   | none=>
    unfold pks
    rw[List.take_add_one,hx];simp
   | some x=>rw[pks_succ hx];omega
  ·obtain rfl:j=k+1:=by omega
   exact Nat.le_refl _
structure TRes(Ns:List Node)(root most:Nat)(L:List Tree)(c:Int):Prop where
 firsts:Firsts (foOf Ns) root most L
 count:CountVal (fun d=>nodeT Ns d root) c
theorem perm_turn3{α:Type}(a b c:α)(l:List α):(a::b::c::l).Perm (c::b::a::l):=
 ((List.Perm.swap b a _).trans (List.Perm.cons b (List.Perm.swap c a l))).trans (List.Perm.swap c b _)
theorem perm_cpU{α:Type}(x a b l:List α):(x++(a++(b++l))).Perm (a++(b++(x++l))):=by
 have h:=(List.perm_append_comm (l₁:=x) (l₂:=a++b)).append_right l
 simpa [List.append_assoc] using h
structure PlT where
 a:Option Addr
 n:Nat
 c:Nat
 B:List (Nat×Blk)
 css:List (List Value)
 bs:List (Nat×Blk)
structure LsS where
 r:LR
 s:Lst
 done:List Cand
theorem ctrees_spec(F:Frz){Ns:List Node}(hf:(foOf Ns).Good)(hok:FOk Ns)(hpr:Prod Ns){na:Option Addr}{nn nc:Nat}(hN:Arr tNode F na nn nc Ns)(root:Nat)(hroot:root<Ns.length)(hrl:(foOf Ns).leaf root=none)(hlp:∀v,(foOf Ns).leaf v≠none→(foOf Ns).packs v=[])(hPS:pks Ns Ns.length≤200000000000){most:Nat}(hm1:1≤most)(hm:most≤100) :
  Abs.Spec CC 46 [.agg ⟨[.slice na nn nc,.int .i64 root]⟩,.int .i64 most] F [] fun F' v o=>∃B',o=[B']∧∃L c,TRes Ns root most L c∧
   (((L.length=most∨(c≠-1∧c≤L.length))∧∃a n d B css bs,v=.tuple ⟨[.slice a n d,.bool true]⟩∧B'=B++bs∧Bld tTC E0 a n d B css∧TOwnL css bs L)∨
    (L.length<most∧(c=-1∨(L.length:Int)<c)∧v=.tuple ⟨[.slice none 0 0,.bool false]⟩)):=by
 have hNl:=hN.len
 have hfew:=hok.few
 refine Abs.Spec.fn (n:=161) Tryz.func46 rfl rfl fun own=>?_
 refine AW.seq (AW.reg ?_)
 refine WT.boxT Z Z Z Z Z Z (fun i2 hi2=>?_)
 refine zB4 ?_
 refine AW.cond Z (fun h=>?_) (fun _=>?_)
 ·exfalso;simp at h;omega
 refine zB4 ?_
 refine AW.draw (ps:=[(0,5),(0,6),(0,7),(3,6),(3,7),(4,6),(4,7)]) Z Z ?_
 refine zB4 ?_
 refine WT.makeT (by_:=24) hT Z Z Z Z Z Z Z Z Z Z Z Z zo (fun lo hlo=>?_)
 refine WT.makeMap Z Z Z Z (fun is his=>?_)
 refine WT.makeMap Z Z Z Z (fun iw hiw=>?_)
 refine zB4 ?_
 refine WT.boxT Z Z Z Z Z Z (fun li hli=>?_)
 refine zB4 ?_
 refine⟨zrA,?_⟩
 refine zB6 ?_
 have htr0:∀(v:Nat) (ps:List Nat),(List.replicate nn ([]:List Nat))[v]?=some ps→ShL F ps ((initS (foOf Ns) 0).lists v):=fun v ps hv=>by
  have e:(initS (foOf Ns) 0).lists v=[]:=by unfold initS;simp
  rw[e]
  rw[List.getElem?_replicate] at hv
  split at hv
  ·cases hv;exact .nil
  ·cases hv
 have h0:LOk (⟨li,na,nn,nc,root,most,lo,bif nn==0 then 0 else 1,is,iw⟩:LP) Ns F (⟨none,0,0,[],[],List.replicate nn (.slice none 0 0),[],List.replicate nn [],[],[],[],[],[],[]⟩:LR) (initS (foOf Ns) 0):=
  ⟨hN,(Bld.nil_ _ _).gb,List.Perm.refl _,fun i h1 h2=>by simp at h2,rowsP_rep F nn,by simp,htr0,rfl,fun c=>by simp[initS,Abs.look],rfl,List.nodup_nil,.nil,fun w=>rfl⟩
 refine AW.range (S:=LR) (fun _=>[]) (fun r=>lrB (⟨li,na,nn,nc,root,most,lo,bif nn==0 then 0 else 1,is,iw⟩:LP) r::[(i2,.cells false [.slice na nn nc,.int .i64 root])]::own)
  (fun j r G=>LOk (⟨li,na,nn,nc,root,most,lo,bif nn==0 then 0 else 1,is,iw⟩:LP) Ns G r (initS (foOf Ns) j)) nn (⟨none,0,0,[],[],List.replicate nn (.slice none 0 0),[],List.replicate nn [],[],[],[],[],[],[]⟩:LR)
  Z Z Z Z Z Z Z Z Z zo rfl rfl (fun _=>rfl) (fun _=>rfl) sM (OwnLe.flat ?_) h0 ?_ ?_
 ·simp only[lrB,lB,lrL,lCells,List.flatten_cons,List.cons_append,List.nil_append]
  exact List.Perm.cons _ (perm_turn3 _ _ _ _)
 ·intro j r F1 hF1 hj hl
  obtain⟨x,hx⟩:∃x,Ns[j]?=some x:=⟨_,gE zo⟩
  obtain⟨ps,hps⟩:∃ps,r.pss[j]?=some ps:=⟨_,gE (by have:=hl.rlen;show j<r.pss.length;rw[this];exact hj)⟩
  obtain⟨va,vn,vc,VB,b1,b2,hvk,hbs,hVB,hput⟩:=hl.rows.split hps
  have hvl:=hl.rows.len
  have hrl2:r.pss.length=nn:=hl.rlen
  have hleaf:(foOf Ns).leaf j=if x.key.sym.term=true then some x.key.sym.n else none:=by unfold foOf;simp only[hx]
  have hN1:=hl.nodes
  refine zB4 ?_
  refine WT.idxL hT hN1 Z Z Z Z Z Z Z Z Z zo (fun z hz b7 off7 ro7 cs7 lx7 hb7 hp7 hrel7=>?_)
  rw[hx] at hz;cases hz
  obtain⟨pa,pn,pc,rfl,hpa⟩:=hrel7
  refine zB4 ?_
  refine WT.allocT hT Z Z Z Z Z Z (fun i8 hi8=>?_)
  refine zB4 ?_
  refine AW.cond Z (fun ht=>?_) (fun ht=>?_)
  ·rw[if_pos ht] at hleaf
   rw[show lrB (⟨li,na,nn,nc,root,most,lo,bif nn==0 then 0 else 1,is,iw⟩:LP) r=lrB (⟨li,na,nn,nc,root,most,lo,bif nn==0 then 0 else 1,is,iw⟩:LP) { r with bs:=b1++(VB++b2) } by rw[←hbs]]
   refine AW.le (OwnLe.cons _ (OwnLe.trans (OwnLe.cons _ (OwnLe.cons _ (own_wsplit b1 VB b2 _))) (lrB_own (⟨li,na,nn,nc,root,most,lo,bif nn==0 then 0 else 1,is,iw⟩:LP) { r with bs:=b1++(VB++b2) } _))) ?_
   refine AW.draw (ps:=[(3,9),(3,10)]) Z Z ?_
   refine zB6 ?_
   refine WT.boxT Z Z Z Z Z Z (fun i56 hi56=>?_)
   refine WT.buildT hT Z Z Z Z Z Z Z Z Z Z Z Z Z Z (fun i57 hi57=>?_)
   refine WT.idxA (j:=j) (s:=1) hT Z Z Z Z Z Z Z Z Z hj ?_
   refine WT.storeAt hT 4 0 Z Z Z Z Z Z Z Z Z Z (by show 0+j*1<r.vs.length;omega) Z Z ?_
   rw[show 0+j*1=j by omega]
   refine WT.freezeAll 1 Z Z (fun F2 hF2 hB2=>?_)
   refine zB6 ?_
   refine⟨zrA,?_⟩
   have hl2:=hl.mono hF2
   have hlf:(foOf Ns).leaf j=some x.key.sym.n:=hleaf
   have hsh:Sh F2 i56 (.mk (-1) x.key.sym.n []):=.mk (ps:=[]) (hB2 i56 _ me) (Arr.nil_ _ _) .nil
   have hb57:Bld tPtr F1 (some ⟨i57,0,none⟩) 1 1 [(i57,.cells false [.pointer (some ⟨i56,0,none⟩)])] [i56]:=⟨rfl,.inr ⟨i57,_,rfl,rfl,rfl,Cells.single (R:=tPtr) rfl,by decide⟩⟩
   skip
   refine⟨{ r with vs:=r.vs.set j (.slice (some ⟨i57,0,none⟩) 1 1),bs:=b1++([(i57,.cells false [.pointer (some ⟨i56,0,none⟩)])]++b2),pss:=r.pss.set j [i56] },sM,?_,⟨hl2.nodes,hl2.q,hl2.qp,hl2.qh,(hput _ _ _ _ _ hb57).any,by rw[List.length_set];exact hl2.rlen,fun v us hv=>?_,hl2.se,hl2.sl,hl2.we,hl2.wn,hl2.ws,hl2.wg⟩⟩
   ·refine OwnLe.trans (OwnLe.trans (lrB_own' (⟨li,na,nn,nc,root,most,lo,bif nn==0 then 0 else 1,is,iw⟩:LP) _ _) (OwnLe.cons _ (OwnLe.cons _ (own_wjoin b1 _ b2 _)))) ?_
    refine OwnLe.trans (b:=[(i57,.cells false [.pointer (some ⟨i56,0,none⟩)])]::((li,.cells false [.slice na nn nc,.int .i64 root,.int .i64 most,.slice (some ⟨lo,0,none⟩) nn (bif nn==0 then 0 else 1),.map (some is),.map (some iw),.slice r.qa r.qn r.qc])::r.qB)::[(lo,.cells false (r.vs.set j (.slice (some ⟨i57,0,none⟩) 1 1)))]::(b1++b2)::[(is,.map r.se)]::[(iw,.map r.we)]::r.wbs::[(i2,.cells false [.slice na nn nc,.int .i64 root])]::own) (OwnLe.flat ?_) (OwnLe.cons _ (OwnLe.skip _ (OwnLe.skip _ (OwnLe.cons _ (OwnLe.cons _ (OwnLe.cons _ (OwnLe.skip _ oR)))))))
    simp only[List.flatten_cons]
    exact perm_cpT _ _ _ _ _
   ·have hv:(r.pss.set j [i56])[v]?=some us:=hv
    by_cases e:v=j
    ·subst e
     rw[List.getElem?_set_self zo] at hv
     cases hv
     rw[init_at hlf]
     exact .cons hsh .nil
    ·rw[List.getElem?_set_ne (fun e2=>e e2.symm)] at hv
     rw[init_ne e]
     exact hl2.trees v us hv
  ·rw[if_neg (by rw[show x.key.sym.term=false from ht];simp)] at hleaf
   refine zB4 ?_
   refine⟨r,sM,OwnLe.skip _ oR,?_⟩
   show LOk (⟨li,na,nn,nc,root,most,lo,bif nn==0 then 0 else 1,is,iw⟩:LP) Ns _ r (initS (foOf Ns) (j+1))
   rw[init_skip hleaf]
   exact hl
 intro r0 F1 hF1 hl0
 have hl0:LOk (⟨li,na,nn,nc,root,most,lo,bif nn==0 then 0 else 1,is,iw⟩:LP) Ns F1 r0 (initS (foOf Ns) nn):=hl0
 have hI0:=init_inv (foOf Ns) hm1
 rw[show (foOf Ns).n=nn from hNl.symm] at hI0
 refine zB4 ?_
 refine AW.range (S:=TakeS) (fun _=>[]) (fun z=>lrB (⟨li,na,nn,nc,root,most,lo,bif nn==0 then 0 else 1,is,iw⟩:LP) z.r::[(i2,.cells false [.slice na nn nc,.int .i64 root])]::own)
  (fun j z G=>LOk (⟨li,na,nn,nc,root,most,lo,bif nn==0 then 0 else 1,is,iw⟩:LP) Ns G z.r z.s∧Inv (foOf Ns) most z.s [] [] []∧z.s.lists=(initS (foOf Ns) nn).lists∧z.s.seen.length≤pks Ns j∧∀v,v<j→(foOf Ns).leaf v=none→∀p,p<((foOf Ns).packs v).length→(⟨v,p,0,0,0,0⟩:Cand)∈z.s.seen) nn ⟨r0,initS (foOf Ns) nn⟩
  Z Z Z Z Z Z Z Z Z zo rfl rfl (fun _=>rfl) (fun _=>rfl) sM oR ⟨hl0,hI0,rfl,Nat.zero_le _,fun v hv=>by omega⟩ ?_ ?_
 ·intro j z F2 hF2 hj hP
  obtain⟨ul,uI,uL,un,ub⟩:=hP
  obtain⟨x,hx⟩:∃x,Ns[j]?=some x:=⟨_,gE zo⟩
  have hN2:=ul.nodes
  have hpx:(foOf Ns).packs j=x.packs:=by unfold foOf;simp only[hx]
  have hpk:=pks_succ hx
  have hpk2:=pks_mono (Ns:=Ns) (show j+1≤Ns.length by omega)
  have hxp:=hok.packs x (gM hx)
  refine zB4 ?_
  refine WT.idxL hT hN2 Z Z Z Z Z Z Z Z Z zo (fun y hy b7 off7 ro7 cs7 lx7 hb7 hp7 hrel7=>?_)
  rw[hx] at hy;cases hy
  obtain⟨pa,pn,pc,rfl,hpa⟩:=hrel7
  have hpal:=hpa.len
  refine zB4 ?_
  refine WT.allocT hT Z Z Z Z Z Z (fun i10 hi10=>?_)
  refine zB4 ?_
  refine AW.range (S:=TakeS) (fun _=>[]) (fun z=>[(i10,.cells false [.bool x.key.sym.term,.int .i64 x.key.sym.n,.int .i64 x.key.frm,.int .i64 x.key.to,.slice pa pn pc])]::lrB (⟨li,na,nn,nc,root,most,lo,bif nn==0 then 0 else 1,is,iw⟩:LP) z.r::[(i2,.cells false [.slice na nn nc,.int .i64 root])]::own)
   (fun q z G=>LOk (⟨li,na,nn,nc,root,most,lo,bif nn==0 then 0 else 1,is,iw⟩:LP) Ns G z.r z.s∧Inv (foOf Ns) most z.s [] [] []∧z.s.lists=(initS (foOf Ns) nn).lists∧z.s.seen.length≤pks Ns j+q∧(∀v,v<j→(foOf Ns).leaf v=none→∀p,p<((foOf Ns).packs v).length→(⟨v,p,0,0,0,0⟩:Cand)∈z.s.seen)∧∀p,p<q→(⟨j,p,0,0,0,0⟩:Cand)∈z.s.seen) pn z
   Z Z Z Z Z Z Z Z Z zo rfl rfl (fun _=>rfl) (fun _=>rfl) sM oR ⟨ul,uI,uL,un,ub,fun p hp=>by omega⟩ ?_ ?_
  ·intro q z F3 hF3 hq hP
   obtain⟨vl,vI,vL,vn,vb,vc⟩:=hP
   have hlj:(foOf Ns).leaf j=none:=by
    cases he:(foOf Ns).leaf j with
    | none=>rfl
    | some t=>
     have:=hlp j (by rw[he];simp)
     rw[hpx] at this
     rw[this] at hpal
     simp at hpal;omega
   have hc:CandOk (foOf Ns) most ⟨j,q,0,0,0,0⟩:=by
    refine⟨by show j<Ns.length;omega,hlj,⟨_,by unfold packAt;rw[hpx];exact gE (show q<x.packs.length by omega)⟩,fun r0 h0=>?_,fun p _ i r0 _ h0=>?_⟩
    ·simp[Cand.ranks] at h0;omega
    ·have:=gM h0
     simpa [Cand.ranks] using this
   have hTop:∀T,candTree (foOf Ns) z.s.lists ⟨j,q,0,0,0,0⟩=some T→∀v,(foOf Ns).leaf v=none→∀x∈z.s.lists v,tle x T:=fun T _ v hv x hx=>by
    rw[vL,init_none hv] at hx;cases hx
   refine zB4 ?_
   refine WT.call1F 1 Tryz.func71 Z Z Z Z Z Z Z (fun _=>rfl) (lfirst_spec F3 vl hf vI hc hTop (by show most≤1000;omega) zo hfew (.pointer none) rfl) (fun F4 v B4 hF4 hv=>?_)
   obtain⟨r',rfl,hl4⟩:=hv
   refine zB4 ?_
   obtain⟨f1,f2,f3,f4⟩:=first_lists (foOf Ns) z.s ⟨j,q,0,0,0,0⟩
   refine⟨⟨r',firstS (foOf Ns) z.s ⟨j,q,0,0,0,0⟩⟩,sM,OwnLe.refl _,hl4,vI.first_ hf hc hTop,f1.trans vL,by show (firstS _ _ _).seen.length≤pks Ns j+(q+1);omega,fun v hv hl p hp=>f2 _ (vb v hv hl p hp),fun p hp=>?_⟩
   rcases Nat.lt_or_ge p q with h1 | h1
   ·exact f2 _ (vc p h1)
   ·obtain rfl:p=q:=by omega
    exact f3
  ·intro z F3 hF3 hP
   obtain⟨vl,vI,vL,vn,vb,vc⟩:=hP
   skip
   refine⟨z,sM,OwnLe.skip _ oR,vl,vI,vL,by rw[hpk,←hpal];exact vn,fun v hv hl p hp=>?_⟩
   rcases Nat.lt_or_ge v j with h1 | h1
   ·exact vb v h1 hl p hp
   ·obtain rfl:v=j:=by omega
    rw[hpx] at hp
    have hp:p<x.packs.length:=hp
    exact vc p (by rw[hpal];exact hp)
 intro z F2 hF2 hP
 obtain⟨ul,uI,uL,un,ub⟩:=hP
 have hbase:BaseIn (foOf Ns) z.s:=fun v hv hl p hp=>ub v (by have:v<Ns.length:=hv;omega) hl p hp
 refine zB4 ?_
 refine joinK (S:=LsS) (fun _=>[]) (fun z=>lrB (⟨li,na,nn,nc,root,most,lo,bif nn==0 then 0 else 1,is,iw⟩:LP) z.r::[(i2,.cells false [.slice na nn nc,.int .i64 root])]::own) (fun z G=>LOk (⟨li,na,nn,nc,root,most,lo,bif nn==0 then 0 else 1,is,iw⟩:LP) Ns G z.r z.s∧Firsts (foOf Ns) root most (z.s.lists root)) ?_ ?_
 ·refine AW.block ?_
  refine AW.loopR (S:=LsS) (fun _=>[]) (fun z=>lrB (⟨li,na,nn,nc,root,most,lo,bif nn==0 then 0 else 1,is,iw⟩:LP) z.r::[(i2,.cells false [.slice na nn nc,.int .i64 root])]::own)
   (fun z G=>LOk (⟨li,na,nn,nc,root,most,lo,bif nn==0 then 0 else 1,is,iw⟩:LP) Ns G z.r z.s∧Inv (foOf Ns) most z.s z.done [] []∧BaseIn (foOf Ns) z.s∧z.s.seen.length≤pks Ns Ns.length+4*tot z.s.lists nn) (fun z=>pks Ns Ns.length+4*(nn*most)+1-z.done.length) ⟨z.r,z.s,[]⟩
   sM oR ⟨ul,uI,hbase,by show z.s.seen.length≤pks Ns Ns.length+4*tot z.s.lists nn;rw[hNl] at un;omega⟩ ?_
  intro y F3 hF3 hP3
  obtain⟨yl,yI,yb,yn⟩:=hP3
  have htot:=tot_le yI.len nn
  have hdl:y.done.length≤y.s.seen.length:=sub_len _ _ yI.dnd yI.dsub
  have hmm:nn*most≤1000000*100:=Nat.mul_le_mul zo hm
  have hql:=yl.q.len
  have hqp:=yl.qp.length_eq
  have hqf:=yI.q_few
  obtain⟨ps,hps⟩:∃ps,y.r.pss[root]?=some ps:=⟨_,gE (by have:y.r.pss.length=nn:=yl.rlen;omega)⟩
  obtain⟨va,vn,vc,VB,b1,b2,hvk,hbs,hVB,hput⟩:=yl.rows.split hps
  have htr:=yl.trees root ps hps
  have hvn:=hVB.len
  have htrl:=htr.len
  have hrm:=yI.len root
  refine zB4 ?_
  refine WT.le (lrB_own (⟨li,na,nn,nc,root,most,lo,bif nn==0 then 0 else 1,is,iw⟩:LP) y.r _) ?_
  skip
  refine WT.split 87 Z (fun hq0=>?_) (fun hq0=>?_)
  rotate_left
  ·have hq0:y.r.qn=0:=by simp at hq0;omega
   refine zB6 ?_
   refine AW.cond Z (fun h=>(by cases h)) (fun _=>?_)
   refine AW.exit ?_
   refine⟨y,sM,lrB_own' (⟨li,na,nn,nc,root,most,lo,bif nn==0 then 0 else 1,is,iw⟩:LP) y.r _,yl,yI.firsts hf yb hrl (.inr fun a ha=>?_)⟩
   have:y.s.q=[]:=List.eq_nil_of_length_eq_zero zo
   rw[this] at ha;cases ha
  have hq1:0<y.r.qn:=by simpa using hq0
  refine zB7 ?_
  refine WT.idxA (j:=root) (s:=1) hT Z Z Z Z Z Z Z Z Z (show root<nn by omega) ?_
  refine WT.loadAt hT 1 Z Z Z Z Z Z me Z Z (v:=.slice va vn vc) (by rw[Nat.zero_add,Nat.mul_one];exact hvk) ?_
  refine zB6 ?_
  refine AW.cond Z (fun hc=>?_) (fun hc=>?_)
  rotate_left
  ·have hc:most≤vn:=by simp at hc;omega
   refine AW.exit ?_
   exact⟨y,sM,lrB_own' (⟨li,na,nn,nc,root,most,lo,bif nn==0 then 0 else 1,is,iw⟩:LP) y.r _,yl,yI.firsts hf yb hrl (.inl zo)⟩
  have hc:vn<most:=by simp at hc;omega
  obtain⟨qn,hqn⟩:∃qn,y.r.qn=qn+1:=⟨y.r.qn-1,by omega⟩
  have yq:=yl.q
  rw[hqn] at yq
  rw[hqn]
  refine zB7 ?_
  refine AW.block ?_
  refine zB7 ?_
  refine WT.ifaceT hT Z Z Z Z Z Z ?_
  refine WT.call1F 0 Tryz.func72 Z Z Z Z Z Z Z (fun _=>rfl) (hpop_spec F3 (lrL (⟨li,na,nn,nc,root,most,lo,bif nn==0 then 0 else 1,is,iw⟩:LP)) yq zo yl.qh) (fun F4 v B4 hF4 hv=>?_)
  obtain⟨qB2,Q2,⟨c,T⟩,l,rfl,hQ2,hperm,hheap,hmin,rfl,tp,rfl,hsh,hTb⟩:=hv
  have yl4:=yl.mono hF4
  have yI2:Inv (foOf Ns) most { y.s with q:=(c,T)::Q2 } y.done [] []:=yI.perm (yl.qp.symm.trans hperm)
  have hl2:LOk (⟨li,na,nn,nc,root,most,lo,bif nn==0 then 0 else 1,is,iw⟩:LP) Ns F4 { y.r with qn:=qn,qB:=qB2,Q:=Q2 } { y.s with q:=Q2 }:=⟨yl4.nodes,hQ2,List.Perm.refl _,hheap,yl4.rows,yl4.rlen,yl4.trees,yl4.se,yl4.sl,yl4.we,yl4.wn,yl4.ws,yl4.wg⟩
  skip
  refine WT.assertT hT Z Z Z Z Z Z ?_
  unfold candV
  refine zB7 ?_
  refine WT.allocT hT Z Z Z Z Z Z (fun i12 hi12=>?_)
  have hsh0:=hsh
  cases hsh with
  | @mk _ tr tm tks ta tn tc tps g1 g2 g3=>
  refine zB7 ?_
  refine AW.cond Z (fun hc5=>?_) (fun hc5=>?_)
  ·have hc5:5000<(Tree.mk tr tm tks).pre.length:=by simp at hc5;omega
   refine AW.exit ?_
   refine⟨⟨{ y.r with qn:=qn,qB:=qB2,Q:=Q2 },{ y.s with q:=Q2 },[]⟩,sM,OwnLe.skip _ (lrB_own' (⟨li,na,nn,nc,root,most,lo,bif nn==0 then 0 else 1,is,iw⟩:LP) { y.r with qn:=qn,qB:=qB2,Q:=Q2 } _),hl2,yI2.firsts hf yb hrl (.inr fun a ha=>?_)⟩
   rcases List.mem_cons.1 ha with rfl | ha
   ·exact hc5
   ·have:=wle_len (hmin a ha)
    dsimp only at this
    omega
  ·have hc5:(Tree.mk tr tm tks).pre.length≤5000:=by simp at hc5;omega
   have hcn:c.node<nn:=by
    have:=(yI2.ok c (yI2.qok (c,_) me).1).node
    have:c.node<Ns.length:=this
    omega
   refine zB7 ?_
   refine WT.le (OwnLe.cons _ (lrB_own' (⟨li,na,nn,nc,root,most,lo,bif nn==0 then 0 else 1,is,iw⟩:LP) { y.r with qn:=qn,qB:=qB2,Q:=Q2 } _)) ?_
   refine WT.call1F 1 Tryz.func73 Z Z Z Z Z Z Z (fun _=>rfl) (nodeTk_spec F4 hl2 hf yI2 yb hmin hc5 hsh0 (by show most≤1000;omega) zo hfew) (fun F5 v B5 hF5 hv=>?_)
   obtain⟨r',s',rfl,hl5,hI5,hb5,hcase⟩:=hv
   have hI5:Inv (foOf Ns) most s' (c::y.done) [] []:=hI5
   have hseen5:s'.seen.length≤pks Ns Ns.length+4*tot s'.lists nn:=by
    rcases hcase with ⟨_,e1,e2⟩ | ⟨_,e1,e2⟩
    ·rw[e1,e2];exact yn
    ·rw[e1,tot_upd,if_pos hcn];omega
   have hdl5:(c::y.done).length≤s'.seen.length:=sub_len _ _ hI5.dnd hI5.dsub
   have htot5:=tot_le hI5.len nn
   refine zB4 ?_
   refine⟨⟨r',s',c::y.done⟩,?_,sM,OwnLe.skip _ oR,hl5,hI5,hb5,hseen5⟩
   show pks Ns Ns.length+4*(nn*most)+1-(c::y.done).length<pks Ns Ns.length+4*(nn*most)+1-y.done.length
   simp only[List.length_cons] at hdl5 ⊢
   omega
 intro y F3 hF3 hP3
 obtain⟨yl,yF⟩:=hP3
 obtain⟨ps,hps⟩:∃ps,y.r.pss[root]?=some ps:=⟨_,gE (by have:y.r.pss.length=nn:=yl.rlen;omega)⟩
 obtain⟨va,vn,vc,VB,b1,b2,hvk,hbs,hVB,hput⟩:=yl.rows.split hps
 have htr:=yl.trees root ps hps
 have hvn:=hVB.len
 have htrl:=htr.len
 have hrm:=yF.len
 refine zB4 ?_
 refine WT.le (lrB_own (⟨li,na,nn,nc,root,most,lo,bif nn==0 then 0 else 1,is,iw⟩:LP) y.r _) ?_
 refine WT.idxA (j:=root) (s:=1) hT Z Z Z Z Z Z Z Z Z (show root<nn by omega) ?_
 refine WT.loadAt hT 1 Z Z Z Z Z Z me Z Z (v:=.slice va vn vc) (by rw[Nat.zero_add,Nat.mul_one];exact hvk) ?_
 refine zB7 ?_
 have hN3:=yl.nodes
 refine WT.callV Tryz.func52 Z Z Z Z Z Z (count_spec _ hok hpr hN3 root hroot) (fun v hv=>?_)
 obtain⟨cn,rfl,hcn⟩:=hv
 refine zB7 ?_
 refine WT.split 132 Z (fun hc=>?_) (fun hc=>?_)
 rotate_left
 ·have hc:vn=most:=by simp at hc;omega
  refine zB7 ?_
  refine AW.cond Z (fun h=>(by cases h)) (fun _=>?_)
  refine zB7 ?_
  refine WT.idxA (j:=root) (s:=1) hT Z Z Z Z Z Z Z Z Z (show root<nn by omega) ?_
  refine WT.loadAt hT 1 Z Z Z Z Z Z me Z Z (v:=.slice va vn vc) (by rw[Nat.zero_add,Nat.mul_one];exact hvk) ?_
  refine zB7 ?_
  refine AW.range (S:=PlT) (fun s=>[(16,.slice s.a s.n s.c)]) (fun s=>s.B::s.bs::((li,.cells false [.slice na nn nc,.int .i64 root,.int .i64 most,.slice (some ⟨lo,0,none⟩) nn (bif nn==0 then 0 else 1),.map (some is),.map (some iw),.slice y.r.qa y.r.qn y.r.qc])::y.r.qB)::[(lo,.cells false y.r.vs)]::y.r.bs::[(is,.map y.r.se)]::[(iw,.map y.r.we)]::y.r.wbs::[(i2,.cells false [.slice na nn nc,.int .i64 root])]::own)
   (fun j s G=>Bld tTC E0 s.a s.n s.c s.B s.css∧TOwnL s.css s.bs ((y.s.lists root).take j)) vn ⟨none,0,0,[],[],[]⟩
   Z Z Z Z Z Z Z Z Z zo rfl rfl (fun _=>rfl) (fun _=>rfl) sM (OwnLe.flat (List.Perm.refl _)) ⟨Bld.nil_ _ _,.nil⟩ ?_ ?_
  ·intro j u F5 hF5 hj hP5
   obtain⟨hb,hL⟩:=hP5
   have hLl:=hL.len
   have hbl5:=hb.len
   rw[List.length_take] at hLl
   have hVB5:=(hVB.mono hF5).gb
   obtain⟨q,hq⟩:∃q,ps[j]?=some q:=⟨_,gE zo⟩
   obtain⟨k,hk⟩:∃k,(y.s.lists root)[j]?=some k:=⟨_,gE zo⟩
   have hkm:=gM hk
   have hsm:=yF.small k hkm
   have hsq:=(htr.at_ hq hk).mono hF5
   refine zB4 ?_
   refine WT.gidx hT hVB5 Z Z Z Z Z Z Z Z Z hj (fun b9 hb9=>?_)
   refine WT.gld1 (x:=q) hT 4 hVB5 hb9 hq Z Z Z Z Z Z (fun z hz=>by rw[hbs];exact List.mem_append_right _ (List.mem_append_left _ hz)) Z Z Z (fun v hv=>?_)
   obtain rfl:v=_:=(List.singleton_inj.1 hv)
   refine zB4 ?_
   refine WT.callN Tryz.func74 Z Z Z Z Z Z (plain_spec _ k (Nat.lt_succ_self _) (yF.valid k hkm).plain zo F5 q hsq) (fun F6 v B6 hF6 hv=>?_)
   obtain⟨cs,rfl,hcs⟩:=hv
   obtain⟨hc3,hc1⟩:=hcs.shape
   obtain⟨x1,x2,x3,rfl⟩:∃x1 x2 x3,cs=[x1,x2,x3]:=by
    match cs,hc3 with
    | [x1,x2,x3],_=>exact⟨x1,x2,x3,rfl⟩
   skip
   refine WT.buildT hT Z Z Z Z Z Z Z Z Z Z Z Z Z Z (fun i9 hi9=>?_)
   refine WT.appendT (R:=tTC) (ys:=[[x1,x2,x3]]) hT 2 (bldT hb) Z (fun _=>rfl) Z Z Z Z Z Z Z Z Z Z Z (fun h0 s0=>news_own hT s0 0 Z Z Z Z) (Cells.single (R:=tTC) ⟨rfl,rfl,hc1⟩) Z (by decide) zom (fun a3 c3 B3 hB3=>?_)
   refine zB4 ?_
   refine⟨⟨a3,u.n+1,c3,B3,u.css++[[x1,x2,x3]],u.bs++B6⟩,sM,?_,bldT hB3,by rw[List.take_add_one,hk];exact hL.snoc hcs⟩
   refine OwnLe.skip _ (OwnLe.flat ?_)
   simp only[List.flatten_cons,List.append_assoc]
   exact perm_cpU _ _ _ _
  ·intro u F5 hF5 hP5
   obtain⟨hb,hL⟩:=hP5
   rw[List.take_of_length_le zo] at hL
   refine zB4 ?_
   refine AW.le (own2:=(u.B++u.bs)::own) (OwnLe.trans (OwnLe.flat (List.Perm.of_eq (by simp))) (OwnLe.cons _ (OwnLe.cons _ (OwnLe.skip _ (OwnLe.skip _ (OwnLe.skip _ (OwnLe.skip _ (OwnLe.skip _ (OwnLe.skip _ (OwnLe.skip _ oR)))))))))) ?_
   exact AW.ret ⟨_,[_],⟨_,_,rfl,⟨_,_,rfl,rfl,rfl⟩,rfl⟩,zsb,_,rfl,_,_,⟨yF,hcn⟩,.inl ⟨(.inl zo),_,_,_,u.B,u.css,u.bs,rfl,rfl,hb,hL⟩⟩
 have hc:vn<most:=by simpa using hc
 refine zB7 ?_
 refine WT.split 135 Z (fun hc2=>?_) (fun hc2=>?_)
 ·have hc2:cn=-1:=by simpa using hc2
  refine zB7 ?_
  refine AW.cond Z (fun _=>?_) (fun h=>(by cases h))
  refine zB7 ?_
  refine AW.le (own2:=[]::own) (OwnLe.trans (OwnLe.flat (List.Perm.refl _)) (OwnLe.skip _ (OwnLe.skip _ (OwnLe.skip _ (OwnLe.skip _ (OwnLe.skip _ (OwnLe.skip _ (OwnLe.skip _ oR)))))))) ?_
  exact AW.ret ⟨_,[_],⟨_,_,rfl,⟨_,_,rfl,rfl,rfl⟩,rfl⟩,zsb,_,rfl,_,_,⟨yF,hcn⟩,.inr ⟨by omega,.inl hc2,rfl⟩⟩
 have hc2:cn≠-1:=by simpa using hc2
 refine zB7 ?_
 refine AW.cond Z (fun hc3=>?_) (fun hc3=>?_)
 ·have hc3:(vn:Int)<cn:=by simpa using hc3
  refine zB7 ?_
  refine AW.le (own2:=[]::own) (OwnLe.trans (OwnLe.flat (List.Perm.refl _)) (OwnLe.skip _ (OwnLe.skip _ (OwnLe.skip _ (OwnLe.skip _ (OwnLe.skip _ (OwnLe.skip _ (OwnLe.skip _ oR)))))))) ?_
  exact AW.ret ⟨_,[_],⟨_,_,rfl,⟨_,_,rfl,rfl,rfl⟩,rfl⟩,zsb,_,rfl,_,_,⟨yF,hcn⟩,.inr ⟨by omega,.inr (by rw[htrl,←hvn];exact hc3),rfl⟩⟩
 ·have hc3:cn≤(vn:Int):=by simpa using hc3
  refine zB7 ?_
  refine WT.idxA (j:=root) (s:=1) hT Z Z Z Z Z Z Z Z Z (show root<nn by omega) ?_
  refine WT.loadAt hT 1 Z Z Z Z Z Z me Z Z (v:=.slice va vn vc) (by rw[Nat.zero_add,Nat.mul_one];exact hvk) ?_
  refine zB7 ?_
  refine AW.range (S:=PlT) (fun s=>[(16,.slice s.a s.n s.c)]) (fun s=>s.B::s.bs::((li,.cells false [.slice na nn nc,.int .i64 root,.int .i64 most,.slice (some ⟨lo,0,none⟩) nn (bif nn==0 then 0 else 1),.map (some is),.map (some iw),.slice y.r.qa y.r.qn y.r.qc])::y.r.qB)::[(lo,.cells false y.r.vs)]::y.r.bs::[(is,.map y.r.se)]::[(iw,.map y.r.we)]::y.r.wbs::[(i2,.cells false [.slice na nn nc,.int .i64 root])]::own)
   (fun j s G=>Bld tTC E0 s.a s.n s.c s.B s.css∧TOwnL s.css s.bs ((y.s.lists root).take j)) vn ⟨none,0,0,[],[],[]⟩
   Z Z Z Z Z Z Z Z Z zo rfl rfl (fun _=>rfl) (fun _=>rfl) sM (OwnLe.flat (List.Perm.refl _)) ⟨Bld.nil_ _ _,.nil⟩ ?_ ?_
  ·intro j u F5 hF5 hj hP5
   obtain⟨hb,hL⟩:=hP5
   have hLl:=hL.len
   have hbl5:=hb.len
   rw[List.length_take] at hLl
   have hVB5:=(hVB.mono hF5).gb
   obtain⟨q,hq⟩:∃q,ps[j]?=some q:=⟨_,gE zo⟩
   obtain⟨k,hk⟩:∃k,(y.s.lists root)[j]?=some k:=⟨_,gE zo⟩
   have hkm:=gM hk
   have hsm:=yF.small k hkm
   have hsq:=(htr.at_ hq hk).mono hF5
   refine zB4 ?_
   refine WT.gidx hT hVB5 Z Z Z Z Z Z Z Z Z hj (fun b9 hb9=>?_)
   refine WT.gld1 (x:=q) hT 4 hVB5 hb9 hq Z Z Z Z Z Z (fun z hz=>by rw[hbs];exact List.mem_append_right _ (List.mem_append_left _ hz)) Z Z Z (fun v hv=>?_)
   obtain rfl:v=_:=(List.singleton_inj.1 hv)
   refine zB4 ?_
   refine WT.callN Tryz.func74 Z Z Z Z Z Z (plain_spec _ k (Nat.lt_succ_self _) (yF.valid k hkm).plain zo F5 q hsq) (fun F6 v B6 hF6 hv=>?_)
   obtain⟨cs,rfl,hcs⟩:=hv
   obtain⟨hc3,hc1⟩:=hcs.shape
   obtain⟨x1,x2,x3,rfl⟩:∃x1 x2 x3,cs=[x1,x2,x3]:=by
    match cs,hc3 with
    | [x1,x2,x3],_=>exact⟨x1,x2,x3,rfl⟩
   skip
   refine WT.buildT hT Z Z Z Z Z Z Z Z Z Z Z Z Z Z (fun i9 hi9=>?_)
   refine WT.appendT (R:=tTC) (ys:=[[x1,x2,x3]]) hT 2 (bldT hb) Z (fun _=>rfl) Z Z Z Z Z Z Z Z Z Z Z (fun h0 s0=>news_own hT s0 0 Z Z Z Z) (Cells.single (R:=tTC) ⟨rfl,rfl,hc1⟩) Z (by decide) zom (fun a3 c3 B3 hB3=>?_)
   refine zB4 ?_
   refine⟨⟨a3,u.n+1,c3,B3,u.css++[[x1,x2,x3]],u.bs++B6⟩,sM,?_,bldT hB3,by rw[List.take_add_one,hk];exact hL.snoc hcs⟩
   refine OwnLe.skip _ (OwnLe.flat ?_)
   simp only[List.flatten_cons,List.append_assoc]
   exact perm_cpU _ _ _ _
  ·intro u F5 hF5 hP5
   obtain⟨hb,hL⟩:=hP5
   rw[List.take_of_length_le zo] at hL
   refine zB4 ?_
   refine AW.le (own2:=(u.B++u.bs)::own) (OwnLe.trans (OwnLe.flat (List.Perm.of_eq (by simp))) (OwnLe.cons _ (OwnLe.cons _ (OwnLe.skip _ (OwnLe.skip _ (OwnLe.skip _ (OwnLe.skip _ (OwnLe.skip _ (OwnLe.skip _ (OwnLe.skip _ oR)))))))))) ?_
   exact AW.ret ⟨_,[_],⟨_,_,rfl,⟨_,_,rfl,rfl,rfl⟩,rfl⟩,zsb,_,rfl,_,_,⟨yF,hcn⟩,.inl ⟨(.inr ⟨hc2,by rw[htrl,←hvn];exact hc3⟩),_,_,_,u.B,u.css,u.bs,rfl,rfl,hb,hL⟩⟩
structure CpS where
 j:Nat
 a:Option Addr
 c:Nat
 B:List (Nat×Blk)
theorem mono_le{T:Nat→Nat}(hm:∀d,T d≤T (d+1)){d e:Nat}(h:d≤e):T d≤T e:=by
 induction e with
 | zero => obtain rfl : d = 0 := by omega
           exact Nat.le_refl _
 | succ e ih=>
  rcases Nat.lt_or_ge d (e+1) with h2 | h2
  ·exact Nat.le_trans (ih zo) (hm e)
  ·obtain rfl:d=e+1:=by omega
   exact Nat.le_refl _
theorem CountVal.some{T:Nat→Nat}{c:Int}(h:CountVal T c)(hc:c≠0):∃d,1≤T d:=by
 rcases h with ⟨n,⟨D,hD⟩,h2⟩ | ⟨h,_⟩
 ·refine⟨D,?_⟩
  rw[hD D (Nat.le_refl _)]
  rcases Nat.eq_zero_or_pos n with e | e
  ·subst e;exact absurd h2 (by simpa using hc)
  ·exact e
 ·exact h 1
end Go.Proofs.D
set_option linter.unusedVariables false
set_option maxRecDepth 20000
set_option maxHeartbeats 0
open Go Go.Abs Go.Proofs Go.Proofs.D
namespace Go.Abs
section
variable {C:Ctx}{T:RT}{n:Nat}{k:Kno}{F:Frz}{own:Own}{ops rest:List Oper}{o:Oper}{Q:Kno→Frz→Own→List Rec→Prop}{args':List Value}
theorem firstZ{h:Heap}{s m c:Nat}{a:Option Addr}(ha:∀p,a=some p→p.spot=none):firstA h s 0 (.slice a m c)=some []:=by
 match a,ha with
 | none,_=>rfl
 | some ⟨b,off,none⟩,_=>rfl
 | some ⟨b,off,some _⟩,ha=>have:=ha _ rfl;cases this
theorem WT.appendA{α:Type}{R:Ty α}(hT:rowsOk C T=true)(p:Nat){B:List (Nat×Blk)}{upd:List (Nat×Blk)→Own}{a b2:Option Addr}{m c d c2 by_:Nat}{xs ys:List α}{t e t2 e2:Nat}{r r2:Row}{z:Value}{xo so:Operand}
  (hb:Bld R F a m c B xs) (hy:Arr R F b2 d c2 ys) (hp:own[p]?=some B) (hupd:∀B',setO own p B'=some (upd B')) (hop:o.op=.call ⟨.builtin .append,⟨[so,xo]⟩,⟨[t,t2]⟩⟩) (hw:wantK ops k o=some true) {dst:Nat} (hdst:o.dst=some dst) (hn:Nat.blt dst n=true)
  (hs:evK C k so=some (.slice a m c)) (hx:evK C k xo=some (.slice b2 d c2)) (hr:rowOf T t=some r) (hd:r.d=.slice e) (hsz:sizeT T e=some R.size) (hz:zeroT T e=some z) (hby:bytesT T e=some by_)
  (hr2:rowOf T t2=some r2) (hd2:r2.d=.slice e2) (hpos:0<R.size∧0<by_) (hroom:(m+d)*by_≤140737488355328)
  (h:∀a' c' B',Bld R F a' (m+d) c' B' (xs++ys)→WT C n ops rest ((dst,.slice a' (m+d) c')::k) F (upd B') (fun k2 F2 own2 rs=>Q k2 F2 own2 (⟨F,own,F,upd B',[]⟩::rs))) :
  WT C n ops (o::rest) k F own Q:=by
 by_cases hd0:d=0
 ·subst hd0
  obtain rfl:ys=[]:=List.eq_nil_of_length_eq_zero hy.len.symm
  have e:upd B=own:=by
   rw[←setO_ok _ _ _ _ (hupd B)]
   obtain⟨hlt,rfl⟩:=gS hp
   exact List.set_getElem_self hlt
  have:=h a c B (by simpa using hb)
  rw[e] at this
  exact WT.append0 hT hop hw hdst hn hs hx hr hd hsz hz hby hr2 hd2 (fun h0 s0=>firstZ hy.spot) hpos (by simpa using hroom) this
 ·obtain⟨ds,hds,hcs⟩:=news_arr hT hy hr2 hd2 e
  exact WT.appendT hT p hb hp hupd hop hw hdst hn hs hx hr hd hsz hz hby (fun h0 s0=>hds _ h0 s0) hcs hy.len ⟨by omega,hpos⟩ hroom h
end
end Go.Abs
namespace Go.Proofs.D
def rankL(k:Key):List Nat:=[k.frm,k.to,if k.sym.term=true then 0 else 1,k.sym.n]
theorem rank_lt{x y:Key}(h:ltKey x y=true):cmpNats (rankL x) (rankL y)<0:=by
 rw[ltKey_iff] at h
 obtain⟨⟨xt,xn⟩,xf,xo⟩:=x
 obtain⟨⟨yt,yn⟩,yf,yo⟩:=y
 rw[cmpSym_lt] at h
 simp only at h
 unfold rankL
 simp only[cmpNats,cmpInt]
 cases xt<;>cases yt<;>simp at h ⊢<;>repeat' split<;>omega
def tBool:Ty Bool where
 size:=1
 rel:=fun _ l x=>l=[.bool x]
 len:=fun _ _ _ h=>by subst h;rfl
 one:=fun _ _ _ h=>by subst h;rfl
 mono:=fun _ _ _ _ _ h=>h
def Chain(to:Nat):List Sym→Nat→List Key→Prop
 | [],i,ks=>ks=[]∧i=to
 | s::l,i,ks=>∃q ks',ks=q::ks'∧q.sym=s∧q.frm=i∧Chain to l q.to ks'
structure PackOk(g:Gram)(S:List Key)(k:Key)(p:NPack)(kp:KPack):Prop where
 num:p=numPack S kp
 rule:∃r,g.rules[kp.rule]?=some r∧r.left=k.sym.n∧Chain k.to r.right k.frm kp.kids
 ins:∀q∈kp.kids,q∈S
structure NodeOk(g:Gram)(w:List Nat)(S:List Key)(k:Key)(x:Node):Prop where
 key:x.key=k
 term:k.sym.term=true→k.to=k.frm+1∧k.to≤w.length∧w[k.frm]?=some k.sym.n∧x.packs=[]
 non:k.sym.term=false→x.packs≠[]
 pack:∀p∈x.packs,∃kp,PackOk g S k p kp
 sorted:x.packs.Pairwise fun x y=>cmpNPack x y<0
theorem packsOf_term{g:Gram}{w:List Nat}{E:List (List Nat)}{k:Key}(h:k.sym.term=true):packsOf g w E k=[]:=by
 rw[List.eq_nil_iff_forall_not_mem]
 intro p hp
 obtain⟨r,_,_,h3,_⟩:=mem_packsOf.1 hp
 rw[h] at h3;cases h3
mutual
theorem TreeOf.end_uniq{g:Gram}{w:List Nat}:∀{t:Tree} {s:Sym} {i j j':Nat},TreeOf g w s t i j→TreeOf g w s t i j'→j=j'
 | .mk _ _ _,_,_,_,_,.leaf _,h=>by cases h with
  | leaf _=>rfl
 | .mk _ _ ks,_,_,_,_,.node h h2,h'=>by
  generalize hs:(⟨false,_⟩:Sym)=s at h'
  cases h' with
  | node g1 g2=>
   rw[h] at g1;cases g1
   exact TreesOf.end_uniq h2 g2
theorem TreesOf.end_uniq{g:Gram}{w:List Nat}:∀{ts:List Tree} {l:List Sym} {i j j':Nat},TreesOf g w l ts i j→TreesOf g w l ts i j'→j=j'
 | [],_,_,_,_,.nil,h=>by cases h;rfl
 | _::_,_,_,_,_,.cons h1 h2,h=>by
  cases h with
  | cons g1 g2=>
   obtain rfl:=TreeOf.end_uniq h1 g1
   exact TreesOf.end_uniq h2 g2
end
mutual
theorem TreeOf.dec{g:Gram}{w:List Nat}:∀{t u:Tree} {s:Sym} {i j i' j':Nat} {x y:List Int},TreeOf g w s t i j→TreeOf g w s u i' j'→t.pre++x=u.pre++y→t=u∧x=y
 | .mk _ _ _,u,_,_,_,_,_,x,y,.leaf _,h,e=>by
  cases h with
  | leaf _=>
   have e:(-1:Int)::([]++x)=-1::([]++y):=e
   exact⟨rfl,by simpa using e⟩
 | .mk _ _ ks,u,_,_,_,_,_,x,y,.node h h2,h',e=>by
  generalize hs:(⟨false,_⟩:Sym)=s at h'
  cases h' with
  | leaf _=>cases hs
  | @node k' r' kids' _ _ g1 g2=>
   have e:((_:Nat):Int)::(preL ks++x)=(k':Int)::(preL kids'++y):=e
   injection e with e1 e2
   have e1:=Int.ofNat_inj.1 e1
   subst e1
   rw[h] at g1;cases g1
   obtain⟨rfl,rfl⟩:=TreesOf.dec h2 g2 e2
   exact⟨rfl,rfl⟩
theorem TreesOf.dec{g:Gram}{w:List Nat}:∀{ts us:List Tree} {l:List Sym} {i j i' j':Nat} {x y:List Int},TreesOf g w l ts i j→TreesOf g w l us i' j'→preL ts++x=preL us++y→ts=us∧x=y
 | [],us,_,_,_,_,_,x,y,.nil,h,e=>by
  cases h
  exact⟨rfl,by simpa [preL] using e⟩
 | t::ts,us,_,_,_,_,_,x,y,.cons h1 h2,h,e=>by
  cases h with
  | @cons _ _ u us _ _ _ g1 g2=>
   have e:(t.pre++preL ts)++x=(u.pre++preL us)++y:=e
   rw[List.append_assoc,List.append_assoc] at e
   obtain⟨rfl,e2⟩:=TreeOf.dec h1 g1 e
   obtain⟨rfl,rfl⟩:=TreesOf.dec h2 g2 e2
   exact⟨rfl,rfl⟩
end
section
variable {g:Gram}{w:List Nat}{E:List (List Nat)}{root:Key}{S:List Key}
theorem foOf_at{v:Nat}{k:Key}(hk:S[v]?=some k):(foOf (S.map (mkNode g w E S))).leaf v=(if k.sym.term=true then some k.sym.n else none)∧(foOf (S.map (mkNode g w E S))).packs v=(packsOf g w E k).map (numPack S):=by
 unfold foOf
 simp only[List.getElem?_map,hk]
 exact⟨rfl,rfl⟩
theorem trees_bound{to:Nat}:∀{l:List Sym} {i:Nat} {ks:List Key} {ts:List Tree},(∀q∈ks,q∈S)→NTs (foOf (S.map (mkNode g w E S))) (ks.map (place S)) ts→ks∈splits w E to l i→
  (∀(q:Key) (t:Tree),q∈ks→t∈ts→NT (foOf (S.map (mkNode g w E S))) (place S q) t→TreeOf g w q.sym t q.frm q.to)→TreesOf g w l ts i to:=by
 intro l
 induction l with
 | nil=>
  intro i ks ts hq hN h hS
  unfold splits at h
  split at h
  ·rename_i e
   subst e
   rw[List.mem_singleton.1 h] at hN
   cases hN
   exact .nil
  ·cases h
 | cons s l ih=>
  intro i ks ts hq hN h hS
  unfold splits at h
  obtain⟨m,_,hm⟩:=List.mem_flatMap.1 h
  split at hm
  ·obtain⟨ks',h2,rfl⟩:=List.mem_map.1 hm
   cases hN with
   | cons h3 h4=>
    exact .cons (hS ⟨s,i,m⟩ _ me me h3) (ih (fun q hq'=>hq q (List.mem_cons_of_mem _ hq')) h4 h2 fun q t h5 h6 h7=>hS q t (List.mem_cons_of_mem _ h5) (List.mem_cons_of_mem _ h6) h7)
  ·cases hm
theorem NT.tree(hK:Keys g w E root S)(hrs:StepK w E root):∀(N:Nat) (T:Tree) (k:Key),T.pre.length<N→k∈S→NT (foOf (S.map (mkNode g w E S))) (place S k) T→TreeOf g w k.sym T k.frm k.to
 | 0,_,_,h,_,_=>by omega
 | N+1,T,k,hN,hk,h=>by
  have hat:=place_at hk
  obtain⟨hl,hp⟩:=foOf_at (g:=g) (w:=w) (E:=E) hat
  cases h with
  | @leaf _ t h1 h2=>
   rw[hl] at h2
   split at h2
   ·rename_i ht
    cases h2
    have hst:=stepB_iff.1 ((hK.reach k hk).step hrs)
    unfold Step at hst
    rw[if_pos ht] at hst
    obtain⟨⟨st,sn⟩,kf,kt⟩:=k
    simp only at ht hst ⊢
    subst ht
    obtain⟨h3,rfl⟩:=hst
    exact .leaf h3
   ·cases h2
  | @node _ p ts h1 h2 h3 h4=>
   rw[hp] at h3
   obtain⟨kp,hkp,rfl⟩:=List.mem_map.1 h3
   obtain⟨r,hr,e1,e2,e3⟩:=mem_packsOf.1 hkp
   have hsub:∀q∈kp.kids,q∈S:=fun q hq=>hK.closed k hk kp hkp q hq
   have hTs:=trees_bound hsub h4 e3 (fun q t hq hm ht=>NT.tree hK hrs N t q (by
    have h5:=preL_mem hm
    have h6:(Tree.mk ((numPack S kp).rule:Int) 0 ts).pre.length=(preL ts).length+1:=rfl
    omega) (hsub q hq) ht)
   have:=TreeOf.node (g:=g) (w:=w) (k:=kp.rule) hr hTs
   obtain⟨⟨st,sn⟩,kf,kt⟩:=k
   simp only at e1 e2 this ⊢
   rw[e2,←e1]
   exact this
theorem kids_uniq(hS:∀(T:Tree) (k:Key),k∈S→NT (foOf (S.map (mkNode g w E S))) (place S k) T→TreeOf g w k.sym T k.frm k.to){to:Nat} :
  ∀{l:List Sym} {i:Nat} {ks ks2:List Key} {ts:List Tree},ks∈splits w E to l i→ks2∈splits w E to l i→(∀q∈ks,q∈S)→(∀q∈ks2,q∈S)→
   NTs (foOf (S.map (mkNode g w E S))) (ks.map (place S)) ts→NTs (foOf (S.map (mkNode g w E S))) (ks2.map (place S)) ts→ks=ks2:=by
 intro l
 induction l with
 | nil=>
  intro i ks ks2 ts h h2 _ _ _ _
  unfold splits at h h2
  split at h
  ·rename_i e
   rw[if_pos e] at h2
   rw[List.mem_singleton.1 h,List.mem_singleton.1 h2]
  ·cases h
 | cons s l ih=>
  intro i ks ks2 ts h h2 hq hq2 hN hN2
  unfold splits at h h2
  obtain⟨m,_,hm⟩:=List.mem_flatMap.1 h
  obtain⟨m2,_,hm2⟩:=List.mem_flatMap.1 h2
  split at hm
  ·split at hm2
   ·obtain⟨ks',h3,rfl⟩:=List.mem_map.1 hm
    obtain⟨ks2',h4,rfl⟩:=List.mem_map.1 hm2
    cases hN with
    | cons a1 a2=>
     cases hN2 with
     | cons b1 b2=>
      have c1:=hS _ ⟨s,i,m⟩ (hq _ me) a1
      have c2:=hS _ ⟨s,i,m2⟩ (hq2 _ me) b1
      obtain rfl:m=m2:=TreeOf.end_uniq c1 c2
      rw[ih h3 h4 (fun q hq'=>hq q (List.mem_cons_of_mem _ hq')) (fun q hq'=>hq2 q (List.mem_cons_of_mem _ hq')) a2 b2]
   ·cases hm2
  ·cases hm
theorem packs_nodup(g:Gram)(w:List Nat)(E:List (List Nat))(k:Key):(packsOf g w E k).Nodup:=by
 rw[List.nodup_iff_pairwise_ne]
 refine(packs_sorted g w E k).imp ?_
 rintro a b hab rfl
 have irr:∀l:List Key,¬KLt l l:=by
  intro l
  induction l with
  | nil=>intro h;cases h
  | cons q l ih=>
   intro h
   cases h with
   | here _ _ h=>omega
   | next h=>exact ih h
 rcases hab with h | h
 ·omega
 ·exact irr _ h.2
theorem fo_good(hg:Valid g)(hK:Keys g w E root S)(hrs:StepK w E root):(foOf (S.map (mkNode g w E S))).Good:=by
 have hnn:(foOf (S.map (mkNode g w E S))).n=S.length:=by unfold foOf;simp
 have hS:∀(T:Tree) (k:Key),k∈S→NT (foOf (S.map (mkNode g w E S))) (place S k) T→TreeOf g w k.sym T k.frm k.to:=fun T k hk h=>NT.tree hK hrs _ T k (Nat.lt_succ_self _) hk h
 have at_:∀v,v<(foOf (S.map (mkNode g w E S))).n→∃k,S[v]?=some k∧k∈S∧place S k=v:=fun v hv=>by
  rw[hnn] at hv
  have h1:S[v]?=some S[v]:=gE hv
  exact⟨_,h1,gM h1,place_of hK.nodup h1⟩
 have nt_lt:∀v T,NT (foOf (S.map (mkNode g w E S))) v T→v<(foOf (S.map (mkNode g w E S))).n:=fun v T h=>by
  cases h<;>assumption
 refine⟨fun v hv p hp=>?_,fun v T T' h h' e=>?_,fun v hv hl a b p q ha hb he ts h h'=>?_⟩
 ·obtain⟨k,hk,hkm,hpl⟩:=at_ v hv
  obtain⟨_,hps⟩:=foOf_at (g:=g) (w:=w) (E:=E) hk
  rw[hps] at hp
  obtain⟨kp,hkp,rfl⟩:=List.mem_map.1 hp
  obtain⟨r,hr,e1,e2,e3⟩:=mem_packsOf.1 hkp
  have hr4:=(hg.right r (gM hr)).2.1
  have hkl:=splits_kids e3
  refine⟨by show (kp.kids.map _).length≤4;rw[List.length_map,hkl];exact hr4,fun u hu=>?_⟩
  obtain⟨q,hq,rfl⟩:=List.mem_map.1 (show u∈kp.kids.map (place S) from hu)
  rw[hnn]
  exact List.idxOf_lt_length_of_mem (hK.closed k hkm kp hkp q hq)
 ·obtain⟨k,hk,hkm,hpl⟩:=at_ v (nt_lt v T h)
  subst hpl
  have h1:=hS T k hkm h
  have h2:=hS T' k hkm h'
  exact(TreeOf.dec (x:=[]) (y:=[]) h1 h2 (by rw[e])).1
 ·obtain⟨k,hk,hkm,hpl⟩:=at_ v hv
  obtain⟨_,hps⟩:=foOf_at (g:=g) (w:=w) (E:=E) hk
  rw[hps,List.getElem?_map] at ha hb
  cases hka:(packsOf g w E k)[a]? with
  | none=>rw[hka] at ha;cases ha
  | some kp=>
   cases hkb:(packsOf g w E k)[b]? with
   | none=>rw[hkb] at hb;cases hb
   | some kq=>
    rw[hka] at ha
    rw[hkb] at hb
    obtain rfl:=Option.some.inj ha
    obtain rfl:=Option.some.inj hb
    have hkpm:=gM hka
    have hkqm:=gM hkb
    obtain⟨r,hr,e1,e2,e3⟩:=mem_packsOf.1 hkpm
    obtain⟨r2,hr2,f1,f2,f3⟩:=mem_packsOf.1 hkqm
    have he:kp.rule=kq.rule:=he
    rw[he,hr2] at hr
    cases hr
    have hks:kp.kids=kq.kids:=kids_uniq hS e3 f3 (fun q hq=>hK.closed k hkm kp hkpm q hq) (fun q hq=>hK.closed k hkm kq hkqm q hq) h h'
    have hpq:kp=kq:=by cases kp;cases kq;simp only at he hks;subst he hks;rfl
    rw[←hpq] at hkb
    exact nodup_at (packs_nodup g w E k) hka hkb
theorem leaf_nopacks(hK:Keys g w E root S):∀v,(foOf (S.map (mkNode g w E S))).leaf v≠none→(foOf (S.map (mkNode g w E S))).packs v=[]:=fun v hv=>by
 cases hk:S[v]? with
 | none=>
  unfold foOf at hv
  simp[hk] at hv
 | some k=>
  obtain⟨h1,h2⟩:=foOf_at (g:=g) (w:=w) (E:=E) hk
  rw[h1] at hv
  rw[h2]
  split at hv
  ·rename_i ht
   rw[packsOf_term ht];rfl
  ·exact absurd rfl hv
theorem pks_packSum:∀(L:List Key),(L.map fun k=>(mkNode g w E S k).packs.length).sum=packSum g w E L
 | []=>rfl
 | k::L=>by
  have:=pks_packSum L
  unfold packSum at this ⊢
  simp only[List.map_cons,List.sum_cons,this]
  simp[mkNode]
end
def WTrees(g:Gram)(w:List Nat)(most:Nat)(L:List Tree)(c:Int):Prop:=
 CountVal (fun d=>symT g w d ⟨false,g.start⟩ 0 w.length) c∧
  (((∀E,EndsOf g w E→stepB w E ⟨false,g.start⟩ 0 w.length=false)∧L=[])∨(most=0∧L=[])∨
   ∃E S,EndsOf g w E∧stepB w E ⟨false,g.start⟩ 0 w.length=true∧Keys g w E (rootKey g w) S∧Firsts (foOf (S.map (mkNode g w E S))) (place S (rootKey g w)) most L)
def OkC(most:Nat)(L:List Tree)(c:Int):Prop:=L.length=most∨(c≠-1∧c≤L.length)
def FailC(most:Nat)(L:List Tree)(c:Int):Prop:=L.length<most∧(c=-1∨(L.length:Int)<c)
theorem still_of_bound{T:Nat→Nat}(hm:∀d,T d≤T (d+1))(hb:¬Unbound T):∃n,Still T n:=by
 have aux:∀k d,(∀e,T e<T d+k)→∃n,Still T n:=by
  intro k
  induction k with
  | zero=>intro d h;exact absurd (h d) zo
  | succ k ih=>
   intro d h
   by_cases h2:∃e,d≤e∧T d<T e
   ·obtain⟨e,h3,h4⟩:=h2
    exact ih e fun e'=>by have:=h e';omega
   ·refine⟨T d,d,fun e he=>?_⟩
    have h3:=mono_le hm he
    rcases Nat.lt_or_ge (T d) (T e) with h4 | h4
    ·exact(h2 ⟨e,he,h4⟩).elim
    ·omega
 by_cases h:∃B,∀d,T d<B
 ·obtain⟨B,h⟩:=h
  exact aux B 0 fun e=>by have:=h e;omega
 ·refine(hb fun B=>?_).elim
  by_cases h2:∃d,B≤T d
  ·exact h2
  ·exact(h ⟨B,fun d=>by
    rcases Nat.lt_or_ge (T d) B with h3 | h3
    ·exact h3
    ·exact(h2 ⟨d,h3⟩).elim⟩).elim
theorem ends_uniqT{g:Gram}{w:List Nat}{E E':List (List Nat)}(h:EndsOf g w E)(h':EndsOf g w E'):E=E':=by
 refine List.ext_getElem (by rw[h.ok.size,h'.ok.size]) fun n h1 h2=>?_
 have l1:=h.ok.row _ (List.getElem_mem h1)
 have l2:=h'.ok.row _ (List.getElem_mem h2)
 refine List.ext_getElem (by rw[l1,l2]) fun i h3 h4=>?_
 refine Nat.eq_of_testBit_eq fun q=>?_
 rw[Bool.eq_iff_iff]
 have e1:(E[n][i]).testBit q=true↔Der g w ⟨false,n⟩ i q:=by
  rw[←h.iff n i q zo]
  constructor
  ·intro hb;exact⟨_,_,gE h1,gE h3,hb⟩
  ·rintro⟨row,x,r1,r2,r3⟩
   rw[gE h1] at r1;cases r1
   rw[gE h3] at r2;cases r2
   exact r3
 have e2:(E'[n][i]).testBit q=true↔Der g w ⟨false,n⟩ i q:=by
  rw[←h'.iff n i q zo]
  constructor
  ·intro hb;exact⟨_,_,gE h2,gE h4,hb⟩
  ·rintro⟨row,x,r1,r2,r3⟩
   rw[gE h2] at r1;cases r1
   rw[gE h4] at r2;cases r2
   exact r3
 rw[e1,e2]
section
variable {g:Gram}{w:List Nat}{most:Nat}{L:List Tree}{c:Int}
theorem WTrees.valid(h:WTrees g w most L c):∀T∈L,TreeOf g w ⟨false,g.start⟩ T 0 w.length:=fun T hT=>by
 rcases h.2 with ⟨_,rfl⟩ | ⟨_,rfl⟩ | ⟨E,S,hE,hst,hK,hF⟩
 ·cases hT
 ·cases hT
 ·exact NT.tree hK hst _ T (rootKey g w) (Nat.lt_succ_self _) hK.first (hF.valid T hT)
theorem WTrees.len(h:WTrees g w most L c):L.length≤most:=by
 rcases h.2 with ⟨_,rfl⟩ | ⟨_,rfl⟩ | ⟨E,S,hE,hst,hK,hF⟩
 ·exact Nat.zero_le _
 ·exact Nat.zero_le _
 ·exact hF.len
theorem WTrees.small(h:WTrees g w most L c):∀T∈L,T.pre.length≤5000:=fun T hT=>by
 rcases h.2 with ⟨_,rfl⟩ | ⟨_,rfl⟩ | ⟨E,S,hE,hst,hK,hF⟩
 ·cases hT
 ·cases hT
 ·exact hF.small T hT
end
theorem ctreesNone_spec(F:Frz)(m:Nat):Abs.Spec CC 46 [.agg ⟨[.slice none 0 0,.int .i64 (-1)]⟩,.int .i64 (m:Nat)] F [] fun F' v o=>o=[]∧v=.tuple ⟨[.slice none 0 0,.bool true]⟩:=by
 refine Abs.Spec.fn (n:=161) Tryz.func46 rfl rfl fun own=>?_
 refine AW.seq (AW.reg ?_)
 refine WT.boxT Z Z Z Z Z Z (fun i2 hi2=>?_)
 refine zB4 ?_
 refine AW.cond Z (fun _=>?_) (fun h=>(by cases h))
 refine zB4 ?_
 exact AW.ret ⟨_,[],⟨_,_,rfl,⟨_,_,rfl,rfl,rfl⟩,rfl⟩,zsb,rfl,rfl⟩
theorem ctreesZero_spec(F:Frz)(na:Option Addr)(nn nc root:Nat):Abs.Spec CC 46 [.agg ⟨[.slice na nn nc,.int .i64 root]⟩,.int .i64 ((0:Nat):Int)] F [] fun F' v o=>o=[]∧v=.tuple ⟨[.slice none 0 0,.bool true]⟩:=by
 refine Abs.Spec.fn (n:=161) Tryz.func46 rfl rfl fun own=>?_
 refine AW.seq (AW.reg ?_)
 refine WT.boxT Z Z Z Z Z Z (fun i2 hi2=>?_)
 refine zB4 ?_
 refine AW.cond Z (fun _=>?_) (fun h=>(by cases h))
 refine zB4 ?_
 exact AW.ret ⟨_,[],⟨_,_,rfl,⟨_,_,rfl,rfl,rfl⟩,rfl⟩,zsb,rfl,rfl⟩
theorem Spec.addNil{f:FuncId}{args:List Value}{F:Frz}{P:Frz→Value→Prop}(h:Abs.Spec CC f args F [] fun F' v o=>o=[]∧P F' v):Abs.Spec CC f args F [] fun F' v o=>o=[[]]∧P F' v:=by
 intro own h0 hs
 obtain⟨v,h',F',oout,h1,h2,h3,rfl,h4⟩:=h own h0 hs
 exact⟨v,h',F',[[]],h1,h2,by simpa [St] using h3,rfl,h4⟩
theorem coreTrees_spec(F:Frz)(g:Gram)(hg:Valid g){w:List Nat}(hw12:w.length≤12){E:List (List Nat)}(hE:EndsOf g w E){fa:Option Addr}{fn fc:Nat}{fr:Int}(hV:ForestV g w E F (.agg ⟨[.slice fa fn fc,.int .i64 fr]⟩)){most:Nat}(hm:most≤100) :
  Abs.Spec CC 46 [.agg ⟨[.slice fa fn fc,.int .i64 fr]⟩,.int .i64 (most:Nat)] F [] fun F' v o=>∃B',o=[B']∧∃L c,WTrees g w most L c∧
   ((OkC most L c∧∃a n d B css bs,v=.tuple ⟨[.slice a n d,.bool true]⟩∧B'=B++bs∧Bld tTC E0 a n d B css∧TOwnL css bs L)∨(FailC most L c∧v=.tuple ⟨[.slice none 0 0,.bool false]⟩)):=by
 rcases hV with ⟨hst,hv⟩ | ⟨hst,S,a,n,c,hv,hK,hA⟩
 ·cases hv
  refine(Spec.addNil (ctreesNone_spec F most)).mono fun F' v o _ ⟨ho,hv⟩=>⟨[],ho,[],0,⟨?_,.inl ⟨fun E' hE'=>by rw[ends_uniqT hE' hE];exact hst,rfl⟩⟩,.inl ⟨.inr ⟨by decide,by simp⟩,none,0,0,[],[],[],hv,rfl,Bld.nil_ _ _,.nil⟩⟩
  refine .inl ⟨0,still_zero fun d=>?_,rfl⟩
  rcases Nat.eq_zero_or_pos (symT g w d ⟨false,g.start⟩ 0 w.length) with e | e
  ·exact e
  ·have:=(step_der hE (Nat.zero_le _)).2 (symT_der e)
   rw[hst] at this;cases this
 ·cases hv
  have hroot:=root_good hg w
  have hrm:=hK.first
  have hpl:=place_at hrm
  have hlt:=(gS hpl).1
  have e:(fun d=>nodeT (S.map (mkNode g w E S)) d (place S (rootKey g w)))=fun d=>symT g w d ⟨false,g.start⟩ 0 w.length:=by
   funext d
   exact node_sym hg hE hK hroot hst d _ hrm
  have hok:=nodes_ok hg hw12 hK hroot
  have hpr:=nodes_prod hg hE hK hroot hst
  rcases Nat.eq_zero_or_pos most with h0 | h0
  ·subst h0
   obtain⟨cc,hcc⟩:∃c,CountVal (fun d=>symT g w d ⟨false,g.start⟩ 0 w.length) c:=by
    by_cases hb:Unbound (fun d=>symT g w d ⟨false,g.start⟩ 0 w.length)
    ·exact⟨-1,.inr ⟨hb,rfl⟩⟩
    ·obtain⟨n,hn⟩:=still_of_bound (fun d=>symT_mono g w d ⟨false,g.start⟩ 0 w.length) hb
     exact⟨_,.inl ⟨n,hn,rfl⟩⟩
   exact(Spec.addNil (ctreesZero_spec F fa fn fc _)).mono fun F' v o _ ⟨ho,hv⟩=>⟨[],ho,[],cc,⟨hcc,.inr (.inl ⟨rfl,rfl⟩)⟩,.inl ⟨.inl rfl,none,0,0,[],[],[],hv,rfl,Bld.nil_ _ _,.nil⟩⟩
  ·refine(ctrees_spec F (fo_good hg hK hst) hok hpr hA (place S (rootKey g w)) (by rw[List.length_map];exact hlt) (by rw[(foOf_at hpl).1];rfl) (leaf_nopacks hK) ?_ h0 hm).mono fun F' v o _ ⟨B',ho,L,c,⟨hF,hc⟩,hres⟩=>⟨B',ho,L,c,⟨by rw[←e];exact hc,.inr (.inr ⟨E,S,hE,hst,hK,hF⟩)⟩,?_⟩
   ·have:=pks_packSum (g:=g) (w:=w) (E:=E) (S:=S) S
    unfold pks
    rw[List.take_length,List.map_map]
    show (S.map fun k=>(mkNode g w E S k).packs.length).sum≤_
    rw[this]
    exact Nat.le_trans (few_packs hg hw12 hK.nodup hK.reach) (by decide)
   ·rcases hres with ⟨h1,h2⟩ | ⟨h1,h2,h3⟩
    ·exact .inl ⟨h1,h2⟩
    ·exact .inr ⟨⟨h1,h2⟩,h3⟩
theorem lexLt_left:∀(p x y:List Int),lexLt (p++x) (p++y)↔lexLt x y
 | [],_,_=>Iff.rfl
 | a::p,x,y=>by
  show (a<a∨(a=a∧lexLt (p++x) (p++y)))↔_
  rw[lexLt_left p x y]
  constructor
  ·rintro(h | h)
   ·omega
   ·exact h.2
  ·exact fun h=>.inr ⟨rfl,h⟩
theorem lexLt_asymm{l m:List Int}(h:lexLt l m)(h2:lexLt m l):False:=lexLt_irrefl _ (lexLt_trans h h2)
theorem lexLt_grow:∀{l m:List Int},lexLt l m→(∃z,m=l++z)∨∀x y,lexLt (l++x) (m++y)
 | [],[],h=>h.elim
 | [],b::m,_=>.inl ⟨b::m,rfl⟩
 | _::_,[],h=>h.elim
 | a::l,b::m,h=>by
  rcases h with h | ⟨rfl,h⟩
  ·exact .inr fun x y=>.inl h
  ·rcases lexLt_grow h with ⟨z,rfl⟩ | h2
   ·exact .inl ⟨z,rfl⟩
   ·exact .inr fun x y=>.inr ⟨rfl,h2 x y⟩
section
variable {g:Gram}{w:List Nat}{E:List (List Nat)}
theorem TreeOf.same_pre{t u:Tree}{s:Sym}{i j i' j':Nat}(h:TreeOf g w s t i j)(h':TreeOf g w s u i' j')(e:t.pre=u.pre):t=u:=
 (TreeOf.dec (x:=[]) (y:=[]) h h' (by rw[e])).1
theorem TreeOf.lt_cat{t u:Tree}{s:Sym}{i j i' j':Nat}(h:TreeOf g w s t i j)(h':TreeOf g w s u i' j')(hl:lexLt t.pre u.pre)(x y:List Int):lexLt (t.pre++x) (u.pre++y):=by
 rcases lexLt_grow hl with ⟨z,hz⟩ | h2
 ·obtain⟨rfl,_⟩:=TreeOf.dec (x:=z) (y:=[]) h h' (by rw[←hz,List.append_nil])
  exact(lexLt_irrefl _ hl).elim
 ·exact h2 x y
theorem TreeOf.le_cat{t u:Tree}{s:Sym}{i j i' j':Nat}(h:TreeOf g w s t i j)(h':TreeOf g w s u i' j')(hl:¬lexLt u.pre t.pre){x y:List Int}(hxy:t=u→¬lexLt y x):¬lexLt (u.pre++y) (t.pre++x):=by
 rcases lexLt_total t.pre u.pre with h1 | h1 | h1
 ·exact fun h2=>lexLt_asymm h2 (TreeOf.lt_cat h h' h1 x y)
 ·have e:=TreeOf.same_pre h h' h1
  subst e
  rw[lexLt_left]
  exact hxy rfl
 ·exact(hl h1).elim
def BestOf(g:Gram)(w:List Nat)(k:Key)(T:Tree):Prop:=TreeOf g w k.sym T k.frm k.to∧∀T',TreeOf g w k.sym T' k.frm k.to→¬lexLt T'.pre T.pre
inductive BestL(g:Gram)(w:List Nat):List Key→List Tree→Prop
 | nil:BestL g w [] []
 | cons {q:Key} {b:Tree} {ks:List Key} {ys:List Tree}:BestOf g w q b→BestL g w ks ys→BestL g w (q::ks) (b::ys)
inductive TreesL(g:Gram)(w:List Nat):List Key→List Tree→Prop
 | nil:TreesL g w [] []
 | cons {q:Key} {t:Tree} {ks:List Key} {ts:List Tree}:TreeOf g w q.sym t q.frm q.to→TreesL g w ks ts→TreesL g w (q::ks) (t::ts)
theorem BestL.snoc{q:Key}{b:Tree}(h:BestOf g w q b):∀{ks:List Key} {ys:List Tree},BestL g w ks ys→BestL g w (ks++[q]) (ys++[b])
 | _,_,.nil=>.cons h .nil
 | _,_,.cons h1 h2=>.cons h1 (BestL.snoc h h2)
theorem BestL.trees{to:Nat}:∀{l:List Sym} {i:Nat} {ks:List Key} {ys:List Tree},ks∈splits w E to l i→BestL g w ks ys→TreesOf g w l ys i to
 | [],i,ks,ys,h,hb=>by
  unfold splits at h
  split at h
  ·rename_i e
   subst e
   rw[List.mem_singleton.1 h] at hb
   cases hb
   exact .nil
  ·cases h
 | s::l,i,ks,ys,h,hb=>by
  unfold splits at h
  obtain⟨m,_,hm⟩:=List.mem_flatMap.1 h
  split at hm
  ·obtain⟨ks',h2,rfl⟩:=List.mem_map.1 hm
   cases hb with
   | cons g1 g2=>exact .cons g1.1 (BestL.trees h2 g2)
  ·cases hm
theorem BestL.le:∀{ks:List Key} {ys ts:List Tree},BestL g w ks ys→TreesL g w ks ts→¬lexLt (preL ts) (preL ys)
 | _,_,_,.nil,.nil=>lexLt_irrefl _
 | _,_,_,.cons g1 g2,.cons h1 h2=>TreeOf.le_cat g1.1 h1 (g1.2 _ h1) fun _=>BestL.le g2 h2
mutual
theorem TreeOf.isDer:∀{t:Tree} {s:Sym} {i j:Nat},TreeOf g w s t i j→Der g w s i j
 | .mk _ _ _,_,_,_,.leaf h=>.term h
 | .mk _ _ _,_,_,_,.node h h2=>.non (gM h) (TreesOf.isDers h2)
theorem TreesOf.isDers:∀{ts:List Tree} {l:List Sym} {i j:Nat},TreesOf g w l ts i j→Ders g w l i j
 | [],_,_,_,.nil=>.nil
 | _::_,_,_,_,.cons h h2=>.cons (TreeOf.isDer h) (TreesOf.isDers h2)
end
theorem trees_split(hE:EndsOf g w E){to:Nat}(hto:to≤w.length):∀{l:List Sym} {i:Nat} {ts:List Tree},TreesOf g w l ts i to→∃ks∈splits w E to l i,TreesL g w ks ts
 | [],i,_,h=>by
  cases h
  exact⟨[],by unfold splits;simp,.nil⟩
 | s::l,i,_,h=>by
  cases h with
  | @cons _ _ t ts _ m _ h1 h2=>
   have d1:=TreeOf.isDer h1
   have d2:=TreesOf.isDers h2
   have l1:=der_le d1
   have l2:=ders_le d2
   obtain⟨ks,hks,hT⟩:=trees_split hE hto h2
   refine⟨⟨s,i,m⟩::ks,?_,.cons h1 hT⟩
   unfold splits
   refine List.mem_flatMap.2 ⟨m,List.mem_range.2 zo,?_⟩
   rw[if_pos ((step_der hE zo).2 d1)]
   exact List.mem_map.2 ⟨ks,hks,rfl⟩
structure BestUp(g:Gram)(w:List Nat)(k:Key)(P:List KPack)(T:Tree):Prop where
 tree:TreeOf g w k.sym T k.frm k.to
 rule:∃(r:Nat) (ks:List Tree),T=.mk r 0 ks
 le:∀p∈P,∀ts,TreesL g w p.kids ts→¬lexLt (Tree.mk p.rule 0 ts).pre T.pre
theorem pack_tree{k:Key}{p:KPack}(hp:p∈packsOf g w E k){ys:List Tree}(hb:BestL g w p.kids ys):TreeOf g w k.sym (.mk p.rule 0 ys) k.frm k.to:=by
 obtain⟨r,hr,h1,h2,h3⟩:=mem_packsOf.1 hp
 have h4:=TreeOf.node (g:=g) (w:=w) (k:=p.rule) hr (BestL.trees h3 hb)
 obtain⟨⟨st,sn⟩,kf,kt⟩:=k
 simp only at h1 h2 h4 ⊢
 subst h1 h2
 exact h4
theorem BestL.pack{p:KPack}{ys ts:List Tree}(hb:BestL g w p.kids ys)(ht:TreesL g w p.kids ts):¬lexLt (Tree.mk p.rule 0 ts).pre (Tree.mk p.rule 0 ys).pre:=fun h=>by
 rcases h with h | h
 ·omega
 ·exact BestL.le hb ht h.2
theorem BestUp.first{k:Key}{p:KPack}(hp:p∈packsOf g w E k){ys:List Tree}(hb:BestL g w p.kids ys):BestUp g w k [p] (.mk p.rule 0 ys):=
 ⟨pack_tree hp hb,⟨p.rule,ys,rfl⟩,fun q hq ts ht=>by
  rw[List.mem_singleton.1 hq] at ht ⊢
  exact BestL.pack hb ht⟩
theorem BestUp.keep{k:Key}{P:List KPack}{T:Tree}(h:BestUp g w k P T){p:KPack}{ys:List Tree}(hb:BestL g w p.kids ys)(hc:¬lexLt (Tree.mk p.rule 0 ys).pre T.pre):BestUp g w k (P++[p]) T:=
 ⟨h.tree,h.rule,fun q hq ts ht hlt=>by
  rcases List.mem_append.1 hq with hq | hq
  ·exact h.le q hq ts ht hlt
  ·rw[List.mem_singleton.1 hq] at ht hlt
   have h1:=BestL.pack hb ht
   rcases lexLt_total T.pre (Tree.mk p.rule 0 ys).pre with h2 | h2 | h2
   ·exact h1 (lexLt_trans hlt h2)
   ·rw[h2] at hlt;exact h1 hlt
   ·exact hc h2⟩
theorem BestUp.take{k:Key}{P:List KPack}{T:Tree}(h:BestUp g w k P T){p:KPack}(hp:p∈packsOf g w E k){ys:List Tree}(hb:BestL g w p.kids ys)(hc:lexLt (Tree.mk p.rule 0 ys).pre T.pre):BestUp g w k (P++[p]) (.mk p.rule 0 ys):=
 ⟨pack_tree hp hb,⟨p.rule,ys,rfl⟩,fun q hq ts ht hlt=>by
  rcases List.mem_append.1 hq with hq | hq
  ·exact h.le q hq ts ht (lexLt_trans hlt hc)
  ·rw[List.mem_singleton.1 hq] at ht hlt
   exact BestL.pack hb ht hlt⟩
theorem BestUp.stop{k:Key}{P R:List KPack}{r:Nat}{ks:List Tree}(h:BestUp g w k P (.mk r 0 ks))(hR:∀p∈R,r<p.rule):BestUp g w k (P++R) (.mk r 0 ks):=
 ⟨h.tree,h.rule,fun q hq ts ht hlt=>by
  rcases List.mem_append.1 hq with hq | hq
  ·exact h.le q hq ts ht hlt
  ·have:=hR q hq
   rcases hlt with h1 | h1
   ·omega
   ·omega⟩
theorem BestUp.best(hE:EndsOf g w E){k:Key}(hto:k.to≤w.length)(hs:k.sym.term=false){T:Tree}(h:BestUp g w k (packsOf g w E k) T):BestOf g w k T:=
 ⟨h.tree,fun T' hT' hlt=>by
  obtain⟨⟨st,sn⟩,kf,kt⟩:=k
  simp only at hs hto hT'
  subst hs
  generalize hsy:(⟨false,sn⟩:Sym)=sy at hT'
  cases hT' with
  | leaf _=>cases hsy
  | @node q r ts _ _ g1 g2=>
   cases hsy
   obtain⟨ks,hks,hT⟩:=trees_split hE hto g2
   exact h.le ⟨q,ks⟩ (mem_packsOf.2 ⟨r,g1,rfl,rfl,hks⟩) ts hT hlt⟩
theorem BestOf.leaf{t i:Nat}(h:w[i]?=some t):BestOf g w ⟨⟨true,t⟩,i,i+1⟩ (.mk (-1) t []):=
 ⟨.leaf h,fun T' hT'=>by
  generalize hsy:(⟨true,t⟩:Sym)=sy at hT'
  cases hT' with
  | leaf _=>cases hsy;exact lexLt_irrefl _
  | node _ _=>cases hsy⟩
theorem packs_rules(k:Key):(packsOf g w E k).Pairwise (fun p q=>p.rule≤q.rule):=by
 have aux:∀n,((List.range n).flatMap (packsAt g w E k)).Pairwise (fun p q=>p.rule≤q.rule)∧∀p∈(List.range n).flatMap (packsAt g w E k),p.rule<n:=by
  intro n
  have at_:∀i,∀p∈packsAt g w E k i,p.rule=i:=by
   intro i p hp
   unfold packsAt at hp
   split at hp
   ·split at hp
    ·obtain⟨ks,_,rfl⟩:=List.mem_map.1 hp;rfl
    ·cases hp
   ·cases hp
  induction n with
  | zero=>exact⟨.nil,fun p hp=>by cases hp⟩
  | succ n ih=>
   rw[List.range_succ,List.flatMap_append,List.flatMap_cons,List.flatMap_nil,List.append_nil]
   refine⟨List.pairwise_append.2 ⟨ih.1,?_,fun p hp q hq=>by have:=ih.2 p hp;have:=at_ n q hq;omega⟩,fun p hp=>?_⟩
   ·refine List.Pairwise.imp_of_mem (R:=fun _ _=>True) (fun {p q} hp hq _=>by have:=at_ n p hp;have:=at_ n q hq;omega) (List.pairwise_of_forall (fun _ _=>trivial))
   ·rcases List.mem_append.1 hp with hp | hp
    ·have:=ih.2 p hp;omega
    ·have:=at_ n p hp;omega
 exact(aux _).1
def CmpT(a b:Tree)(c:Int):Prop:=(c<0↔lexLt a.pre b.pre)∧(c=0↔a=b)
theorem CmpT.heads{r r':Nat}{ks ls:List Tree}(h:r≠r'):CmpT (.mk r 0 ks) (.mk r' 0 ls) ((r:Int)-r'):=by
 refine⟨⟨fun h1=>.inl zo,fun h1=>?_⟩,⟨fun h1=>by omega,fun h1=>by cases h1;exact absurd rfl h⟩⟩
 rcases h1 with h1 | h1
 ·omega
 ·have:=h1.1;omega
theorem CmpT.kid{l:List Sym}{r:Int}{xs ys:List Tree}{i j i' j' q:Nat}{c:Int}(ha:TreesOf g w l xs i j)(hb:TreesOf g w l ys i' j')(hq:xs.take q=ys.take q){a b:Tree}(hqa:xs[q]?=some a)(hqb:ys[q]?=some b)
  (hk:∃s m n m' n',TreeOf g w s a m n∧TreeOf g w s b m' n') (hc:CmpT a b c) (h0:c≠0):CmpT (.mk r 0 xs) (.mk r 0 ys) c:=by
 have hab:a≠b:=fun e=>h0 (hc.2.2 e)
 obtain⟨s,m,n,m',n',h1,h2⟩:=hk
 have split:∀{l:List Tree} {x:Tree},l[q]?=some x→preL l=preL (l.take q)++(x.pre++preL (l.drop (q+1))):=by
  intro l x hx
  obtain⟨hlt,he⟩:=gS hx
  have e:l=l.take q++(x::l.drop (q+1)):=by
   rw[←he,←List.drop_eq_getElem_cons hlt,List.take_append_drop]
  conv=>lhs;rw[e]
  rw[preL_app,preL_cons]
 have key:lexLt (Tree.mk r 0 xs).pre (Tree.mk r 0 ys).pre↔lexLt a.pre b.pre:=by
  show (r<r∨(r=r∧lexLt (preL xs) (preL ys)))↔_
  rw[split hqa,split hqb,hq,lexLt_left]
  constructor
  ·rintro(h | ⟨_,h⟩)
   ·omega
   ·rcases lexLt_total a.pre b.pre with h3 | h3 | h3
    ·exact h3
    ·exact absurd (TreeOf.same_pre h1 h2 h3) hab
    ·exact(lexLt_asymm h (TreeOf.lt_cat h2 h1 h3 _ _)).elim
  ·exact fun h=>.inr ⟨rfl,TreeOf.lt_cat h1 h2 h _ _⟩
 refine⟨hc.1.trans key.symm,fun h=>absurd h h0,fun h=>?_⟩
 cases h
 rw[hqa] at hqb
 exact absurd (Option.some.inj hqb) hab
end
end Go.Proofs.D
set_option linter.unusedVariables false
set_option maxRecDepth 20000
set_option maxHeartbeats 0
open Go Go.Abs Go.Proofs Go.Proofs.D
namespace Go.Abs
section
variable {C:Ctx}{T:RT}{n:Nat}{k:Kno}{F:Frz}{own:Own}{ops rest:List Oper}{o:Oper}{Q:Kno→Frz→Own→List Rec→Prop}
theorem WT.ptrEqO(hT:rowsOk C T=true){t ty:TypeId}{xo yo:Operand}{i j oi oj e s:Nat}{cs ds:List Value}{r:Row}{dst:Nat}(hop:o.op=.binOp .eql t xo yo ty)(hw:wantK ops k o=some true)(hdst:o.dst=some dst)(hn:Nat.blt dst n=true)
  (hx:evK C k xo=some (.pointer (some ⟨i,oi,none⟩))) (hy:evK C k yo=some (.pointer (some ⟨j,oj,none⟩))) (hi:F i=some (.cells false cs)) (hj:F j=some (.cells false ds)) (hr:rowOf T t=some r) (hd:r.d=.pointer e) (hs:sizeT T e=some (s+1))
  (h:WT C n ops rest ((dst,.bool (bif i==j then oi==oj else false))::k) F own (fun k2 F2 own2 rs=>Q k2 F2 own2 (⟨F,own,F,own,[i,j]⟩::rs))):WT C n ops (o::rest) k F own Q:=by
 refine WT.still hw (l:=[i,j]) (by rw[hop];simp only[looksK,hx,hy];rfl) (fun h0 s0=>?_) (by rw[hdst,putK_some hn];exact h)
 rw[hop]
 have l1:live h0 i=true:=by unfold live;rw[s0.frz _ _ hi]
 have l2:live h0 j=true:=by unfold live;rw[s0.frz _ _ hj]
 have e0:(s+1==0)=false:=by simp
 cases hij:i==j with
 | true=>simp only[opA,hx,hy,binA,eqLets,equalA,und_pointer hT hr hd,sizeT_ok hT hs,e0,hij,cond_true,cond_false];rfl
 | false=>simp only[opA,hx,hy,binA,eqLets,equalA,und_pointer hT hr hd,sizeT_ok hT hs,e0,hij,l1,l2,Bool.and_self,cond_true,cond_false];rfl
end
end Go.Abs
namespace Go.Proofs.D
inductive PCell(F:Frz):List Value→Tree→Prop
 | mk {r:Int} {t:Nat} {ks:List Tree} {a:Option Addr} {n c b2 o2:Nat} {cs2:List Value} (ls:Nat→List Value):Arr tTree F a n c ks→ks.length≤1000000→(ks≠[]→a=some ⟨b2,o2,none⟩∧F b2=some (.cells false cs2))→
   (∀(q:Nat) (kid:Tree),ks[q]?=some kid→partL cs2 (o2+q*3) 3=some (ls q))→(∀(q:Nat) (kid:Tree),ks[q]?=some kid→PCell F (ls q) kid)→PCell F [.int .i64 r,.int .i64 t,.slice a n c] (.mk r t ks)
theorem PCell.mono{F G:Frz}(hF:Frz.le F G){l:List Value}{T:Tree}(h:PCell F l T):PCell G l T:=by
 induction h with
 | mk ls h1 h2 h3 h4 _ ih=>exact .mk ls (h1.mono hF) h2 (fun h=>⟨(h3 h).1,hF _ _ (h3 h).2⟩) h4 ih
theorem PCell.tree{F:Frz}{l:List Value}{T:Tree}(h:PCell F l T):tTree.rel F l T:=by
 cases h with
 | mk ls h1 h2 _ _ _=>exact tTree_mk h1 h2
def tPT:Ty Tree where
 size:=3
 rel:=fun F l x=>PCell F l x
 len:=fun _ _ _ h=>by cases h;rfl
 one:=fun _ _ _ h=>by cases h;rfl
 mono:=fun _ _ _ _ hF h=>h.mono hF
def PT(F:Frz)(b off:Nat)(T:Tree):Prop:=∃cs l,F b=some (.cells false cs)∧partL cs off 3=some l∧PCell F l T
theorem PT.mono{F G:Frz}{b off:Nat}{T:Tree}(h:PT F b off T)(hF:Frz.le F G):PT G b off T:=by
 obtain⟨cs,l,h1,h2,h3⟩:=h
 exact⟨cs,l,hF _ _ h1,h2,h3.mono hF⟩
theorem tTree_uniq{F:Frz}:∀(N:Nat) (T U:Tree) (l:List Value),T.pre.length<N→tTree.rel F l T→tTree.rel F l U→T=U
 | 0,_,_,_,h,_,_=>by omega
 | N+1,.mk r t ks,.mk r' t' ks',l,hN,h,h'=>by
  obtain⟨a,n,c,rfl,hk,_⟩:=tTree_cases h
  obtain⟨a',n',c',e,hk',_⟩:=tTree_cases h'
  have hpe:(Tree.mk r t ks).pre.length=(preL ks).length+1:=rfl
  simp only[List.cons.injEq,Value.int.injEq,Value.slice.injEq,and_true,true_and] at e
  obtain⟨rfl,e2,rfl,rfl,rfl⟩:=e
  obtain rfl:t=t':=by omega
  have hl:=hk.len
  have hl':=hk'.len
  have:ks=ks':=by
   refine List.ext_getElem zo fun q h1 h2=>?_
   obtain⟨b,off,ro,cs,l1,g1,g2,g3,g4⟩:=hk.el q _ (gE h1)
   obtain⟨b',off',ro',cs',l1',g1',g2',g3',g4'⟩:=hk'.el q _ (gE h2)
   rw[g1] at g1'
   simp only[Option.some.injEq,Addr.mk.injEq,and_true] at g1'
   obtain⟨rfl,rfl⟩:=g1'
   rw[g2] at g2'
   simp only[Option.some.injEq,Blk.cells.injEq] at g2'
   obtain⟨rfl,rfl⟩:=g2'
   rw[g3] at g3'
   obtain rfl:=Option.some.inj g3'
   exact tTree_uniq N _ _ _ (by have:=preL_mem (List.getElem_mem h1);omega) g4 g4'
  rw[this]
theorem PT.uniq{F:Frz}{b off:Nat}{T U:Tree}(h:PT F b off T)(h':PT F b off U):T=U:=by
 obtain⟨cs,l,h1,h2,h3⟩:=h
 obtain⟨cs',l',g1,g2,g3⟩:=h'
 rw[h1] at g1
 simp only[Option.some.injEq,Blk.cells.injEq,true_and] at g1
 subst g1
 rw[h2] at g2
 obtain rfl:=Option.some.inj g2
 exact tTree_uniq _ _ _ _ (Nat.lt_succ_self _) h3.tree g3.tree
theorem TreesOf.get{g:Gram}{w:List Nat}:∀{ts:List Tree} {l:List Sym} {i j q:Nat} {t:Tree},TreesOf g w l ts i j→ts[q]?=some t→∃s m n,l[q]?=some s∧TreeOf g w s t m n
 | _,_,_,_,q,_,.nil,h=>by simp at h
 | _,_,_,_,0,_,.cons h1 h2,h=>by
  have h:=Option.some.inj (by simpa using h)
  subst h
  exact⟨_,_,_,rfl,h1⟩
 | _,_,_,_,q+1,_,.cons h1 h2,h=>by
  obtain⟨s,m,n,h3,h4⟩:=TreesOf.get h2 (by simpa using h)
  exact⟨s,m,n,by simpa using h3,h4⟩
theorem dcompare_spec(g:Gram)(hg:Valid g)(w:List Nat):∀(N:Nat) (T U:Tree),T.pre.length<N→∀{s:Sym} {i j i' j':Nat},TreeOf g w s T i j→TreeOf g w s U i' j'→∀(F:Frz) (b off b' off':Nat),PT F b off T→PT F b' off' U→
  Abs.Spec CC 67 [.pointer (some ⟨b,off,none⟩),.pointer (some ⟨b',off',none⟩)] F [] fun F' v o=>o=[]∧∃c,v=.int .i64 c∧CmpT T U c
 | 0,_,_,h,_,_,_,_,_,_,_,_,_,_,_,_,_,_=>by omega
 | N+1,.mk r t ks,.mk r' t' ks',hN,s,i,j,i',j',hT1,hU1,F,b,off,b',off',hp,hp'=>by
  have hgr:=hg.range.rules
  have hpe:(Tree.mk r t ks).pre.length=(preL ks).length+1:=rfl
  have hsame:b=b'→off=off'→Tree.mk r t ks=.mk r' t' ks':=fun e1 e2=>by subst e1 e2;exact hp.uniq hp'
  have hshape:(r=-1∧r'=-1∧t=t'∧ks=[]∧ks'=[])∨∃(k k':Nat) (R R':Rule),r=k∧r'=k'∧t=0∧t'=0∧g.rules[k]?=some R∧g.rules[k']?=some R'∧TreesOf g w R.right ks i j∧TreesOf g w R'.right ks' i' j':=by
   cases hT1 with
   | leaf _=>
    generalize hs:(⟨true,t⟩:Sym)=s at hU1
    cases hU1 with
    | leaf _=>cases hs;exact .inl ⟨rfl,rfl,rfl,rfl,rfl⟩
    | node _ _=>cases hs
   | @node k R _ _ _ g1 g2=>
    generalize hs:(⟨false,R.left⟩:Sym)=s at hU1
    cases hU1 with
    | leaf _=>cases hs
    | @node k' R' _ _ _ g1' g2'=>exact .inr ⟨k,k',R,R',rfl,rfl,rfl,rfl,g1,g1',g2,g2'⟩
  have hrb:-1≤r∧r≤100∧-1≤r'∧r'≤100:=by
   rcases hshape with ⟨rfl,rfl,_⟩ | ⟨k,k',R,R',rfl,rfl,_,_,h1,h2,_⟩
   ·omega
   ·have:=(gS h1).1
    have:=(gS h2).1
    omega
  obtain⟨cs,l1,hb,hpl,hrel⟩:=hp
  obtain⟨cs',l2,hb',hpl',hrel'⟩:=hp'
  cases hrel with
  | @mk _ _ _ ka kn kc kb ko kcs kls hka hkb hkf hkp hkr=>
  cases hrel' with
  | @mk _ _ _ la ln lc lb lo lcs lls hla hlb hlf hlp hlr=>
  have hkl:=hka.len
  have hll:=hla.len
  refine Abs.Spec.fn (n:=53) Tryz.func67 rfl rfl fun own=>?_
  refine zB4 ?_
  refine WT.ptrEqO hT Z Z Z Z Z Z hb hb' Z Z Z ?_
  refine zB4 ?_
  refine AW.cond Z (fun he=>?_) (fun he=>?_)
  ·have he:b=b'∧off=off':=by
    cases hbb:b==b' with
    | true=>rw[hbb] at he;exact⟨by simpa using hbb,by simpa using he⟩
    | false=>rw[hbb] at he;cases he
   have e:=hsame he.1 he.2
   refine zB4 ?_
   exact AW.ret ⟨_,[],⟨_,_,rfl,rfl,rfl⟩,zsb,rfl,0,rfl,⟨fun h=>by omega,fun h=>by rw[e] at h;exact(lexLt_irrefl _ h).elim⟩,⟨fun _=>e,fun _=>rfl⟩⟩
  ·clear he hsame
   refine zB4 ?_
   refine AW.cond Z (fun hne=>?_) (fun hne=>?_)
   ·have hne:r≠r':=by simpa using hne
    refine zB4 ?_
    refine AW.ret ⟨_,[],⟨_,_,rfl,rfl,rfl⟩,zsb,rfl,_,rfl,?_⟩
    rcases hshape with ⟨rfl,rfl,_⟩ | ⟨k,k',R,R',rfl,rfl,rfl,rfl,h1,h2,_⟩
    ·exact absurd rfl hne
    ·exact CmpT.heads fun e=>hne (by rw[e])
   ·have hne:r=r':=by simpa using hne
    subst hne
    have hlen:ks.length=ks'.length∧t=t'∧∃L m1 m2 m3 m4,TreesOf g w L ks m1 m2∧TreesOf g w L ks' m3 m4:=by
     rcases hshape with ⟨_,_,h1,rfl,rfl⟩ | ⟨k,k',R,R',e1,e2,rfl,rfl,h1,h2,h3,h4⟩
     ·exact⟨rfl,h1,[],0,0,0,0,.nil,.nil⟩
     ·obtain rfl:k=k':=by omega
      rw[h1] at h2
      cases h2
      exact⟨by rw[h3.len,h4.len],rfl,_,_,_,_,_,h3,h4⟩
    obtain⟨hlen,rfl,L,m1,m2,m3,m4,hTs,hUs⟩:=hlen
    refine zB4 ?_
    refine AW.range (S:=Unit) (fun _=>[]) (fun _=>own) (fun q _ G=>ks.take q=ks'.take q) kn () Z Z Z Z Z Z Z Z Z zo Z Z (fun _=>rfl) (fun _=>rfl) sM oR Z ?_ ?_
    ·intro q _ F1 hF1 hq htk
     have hb1:=hF1 _ _ hb
     have hb2:=hF1 _ _ hb'
     obtain⟨x,hx⟩:∃x,ks[q]?=some x:=⟨_,gE zo⟩
     obtain⟨y,hy⟩:∃y,ks'[q]?=some y:=⟨_,gE zo⟩
     obtain⟨rfl,fk⟩:=hkf (fun e=>by rw[e] at hx;simp at hx)
     obtain⟨rfl,fl⟩:=hlf (fun e=>by rw[e] at hy;simp at hy)
     obtain⟨sx,n1,n2,hs1,hx2⟩:=TreesOf.get hTs hx
     obtain⟨sy,n3,n4,hs2,hy2⟩:=TreesOf.get hUs hy
     obtain rfl:sx=sy:=by rw[hs1] at hs2;exact Option.some.inj hs2
     have hsz:=preL_mem (gM hx)
     refine zB4 ?_
     refine WT.idxA (j:=q) (s:=3) hT Z Z Z Z Z Z Z Z Z zo ?_
     refine zB4 ?_
     refine WT.idxA (j:=q) (s:=3) hT Z Z Z Z Z Z Z Z Z zo ?_
     skip
     refine WT.callV Tryz.func67 Z Z Z Z Z Z (dcompare_spec g hg w N x y zo hx2 hy2 F1 kb (ko+q*3) lb (lo+q*3) ⟨kcs,kls q,hF1 _ _ fk,hkp q x hx,(hkr q x hx).mono hF1⟩ ⟨lcs,lls q,hF1 _ _ fl,hlp q y hy,(hlr q y hy).mono hF1⟩) (fun v hv=>?_)
     obtain⟨c,rfl,hc⟩:=hv
     refine zB4 ?_
     refine AW.cond Z (fun h0=>?_) (fun h0=>?_)
     ·have h0:c≠0:=by simpa using h0
      refine zB4 ?_
      exact AW.ret ⟨_,[],⟨_,_,rfl,rfl,rfl⟩,zsb,rfl,c,rfl,by
       rcases hshape with ⟨_,_,_,rfl,_⟩ | ⟨k,k',R,R',e1,e2,rfl,_,_⟩
       ·simp at hx
       ·exact CmpT.kid hTs hUs htk hx hy ⟨_,_,_,_,_,hx2,hy2⟩ hc h0⟩
     ·have h0:c=0:=by simpa using h0
      obtain rfl:=hc.2.1 h0
      refine zB4 ?_
      exact⟨(),sM,zow,by show ks.take (q+1)=ks'.take (q+1);rw[List.take_add_one,List.take_add_one,htk,hx,hy]⟩
    ·intro _ F1 hF1 htk
     have htk:ks.take kn=ks'.take kn:=htk
     rw[List.take_of_length_le zo,List.take_of_length_le zo] at htk
     subst htk
     refine zB4 ?_
     exact AW.ret ⟨_,[],⟨_,_,rfl,rfl,rfl⟩,zsb,rfl,0,rfl,⟨fun h=>by omega,fun h=>(lexLt_irrefl _ h).elim⟩,⟨fun _=>rfl,fun _=>rfl⟩⟩
def TreesRes(g:Gram)(w:List Nat)(most:Nat)(v:Value)(o:List (List (Nat×Blk))):Prop:=
 ∃B',o=[B']∧∃L c,WTrees g w most L c∧
   ((OkC most L c∧∃a n d B css bs,v=.tuple ⟨[.slice a n d,.int .i64 0]⟩∧B'=B++bs∧Bld tTC E0 a n d B css∧TOwnL css bs L)∨(FailC most L c∧v=.tuple ⟨[.slice none 0 0,.int .i64 2]⟩))
theorem mtrees_spec(F:Frz)(hL:Laid F)(g:Gram)(hg:Valid g){ga:Option Addr}{gm gc:Nat}(hr:Arr tRule F ga gm gc g.rules){b:Option Addr}{n d:Nat}{w:List Nat}(hw:Arr tNat F b n d w)(hw12:w.length≤12)(hw2:∀t∈w,t<g.terms){most:Nat}(hm:most≤100) :
  Abs.Spec CC 11 [.agg ⟨gramCells g ga gm gc⟩,.slice b n d,.int .i64 (most:Nat)] F [] fun F' v o=>TreesRes g w most v o:=by
 unfold gramCells
 refine Abs.Spec.fn (n:=34) Tryz.func11 rfl rfl fun own=>?_
 refine AW.seq (AW.reg ?_)
 refine WT.boxT Z Z Z Z Z Z (fun i3 hi3=>?_)
 refine zB4 ?_
 refine WT.callV Tryz.func42 Z Z Z Z Z Z (mcheck_spec _ g hg hr hw hw12 hw2) (fun v hv=>?_)
 subst hv
 refine zB4 ?_
 refine AW.cond Z (fun h=>(by cases h)) (fun h=>?_)
 refine zB4 ?_
 refine AW.cond Z (fun h=>(by exfalso;simp at h;omega)) (fun h=>?_)
 refine zB4 ?_
 refine WT.callF0 Tryz.func47 Z Z Z Z Z Z (meanOf_spec _ hL g hg hr hw hw12) (fun F2 v hF2 hv=>?_)
 obtain⟨E,hE,hv⟩:=hv
 have hform:∃fa fn fc fr,v=.agg ⟨[.slice fa fn fc,.int .i64 fr]⟩:=by
  rcases hv with ⟨_,rfl⟩ | ⟨_,S,a,n',c,rfl,_⟩
  ·exact⟨_,_,_,_,rfl⟩
  ·exact⟨_,_,_,_,rfl⟩
 obtain⟨fa,fn,fc,fr,rfl⟩:=hform
 refine zB4 ?_
 refine WT.callN Tryz.func46 Z Z Z Z Z Z (coreTrees_spec _ g hg hw12 hE hv hm) (fun F3 v B3 hF3 hv3=>?_)
 obtain⟨L,c,hW,hres⟩:=hv3
 rcases hres with ⟨hok,a,n',d',B,css,bs,rfl,rfl,hB,hT'⟩ | ⟨hf,rfl⟩
 ·refine zB4 ?_
  refine AW.cond Z (fun h=>(by cases h)) (fun h=>?_)
  refine zB4 ?_
  refine AW.ret ⟨_,[_],⟨_,_,rfl,⟨_,_,rfl,rfl,rfl⟩,rfl⟩,List.Sublist.cons_cons _ zsb,_,rfl,L,c,hW,.inl ⟨hok,_,_,_,_,_,_,rfl,rfl,hB,hT'⟩⟩
 ·refine zB4 ?_
  refine AW.cond Z (fun _=>?_) (fun h=>(by cases h))
  refine zB4 ?_
  refine AW.ret ⟨_,[_],⟨_,_,rfl,⟨_,_,rfl,rfl,rfl⟩,rfl⟩,List.Sublist.cons_cons _ zsb,_,rfl,L,c,hW,.inr ⟨hf,rfl⟩⟩
section
variable {g:Gram}{w:List Nat}{E:List (List Nat)}{root:Key}{S:List Key}
mutual
theorem der_keys(hE:EndsOf g w E)(hK:Keys g w E root S):∀{s:Sym} {i j:Nat},Der g w s i j→j≤w.length→⟨s,i,j⟩∈S→∀p,i≤p→p<j→∃t,w[p]?=some t∧(⟨⟨true,t⟩,p,p+1⟩:Key)∈S
 | _,i,_,.term h,hj,hS,p,h1,h2=>by
  obtain rfl:p=i:=by omega
  exact⟨_,h,hS⟩
 | _,i,j,.non (r:=r) hr hd,hj,hS,p,h1,h2=>by
  obtain⟨ks,hks,hall⟩:=ders_keys hE hK hd hj
  obtain⟨q,hq⟩:=List.getElem?_of_mem hr
  have hp:(⟨q,ks⟩:KPack)∈packsOf g w E ⟨⟨false,r.left⟩,i,j⟩:=mem_packsOf.2 ⟨r,hq,rfl,rfl,hks⟩
  exact hall (fun x hx=>hK.closed _ hS _ hp x hx) p h1 h2
theorem ders_keys(hE:EndsOf g w E)(hK:Keys g w E root S):∀{l:List Sym} {i j:Nat},Ders g w l i j→j≤w.length→∃ks∈splits w E j l i,((∀x∈ks,x∈S)→∀p,i≤p→p<j→∃t,w[p]?=some t∧(⟨⟨true,t⟩,p,p+1⟩:Key)∈S)
 | _,i,_,.nil,hj=>⟨[],by unfold splits;simp,fun _ p h1 h2=>by omega⟩
 | _,i,j,.cons (s:=s) (l:=l) (m:=m) h1 h2,hj=>by
  obtain⟨ks,hks,hall⟩:=ders_keys hE hK h2 hj
  have him:=der_le h1
  have hmj:m≤j:=ders_le h2
  refine⟨⟨s,i,m⟩::ks,?_,fun hS p hp1 hp2=>?_⟩
  ·unfold splits
   refine List.mem_flatMap.2 ⟨m,List.mem_range.2 zo,?_⟩
   rw[if_pos ((step_der hE zo).2 h1)]
   exact List.mem_map.2 ⟨ks,hks,rfl⟩
  ·rcases Nat.lt_or_ge p m with h | h
   ·exact der_keys hE hK h1 zo (hS _ me) p hp1 h
   ·exact hall (fun x hx=>hS x (List.mem_cons_of_mem _ hx)) p h hp2
end
end
structure WordSeen(w:List Nat)(N:List Key)(j:Nat)(xs:List Int):Prop where
 len:xs.length=w.length
 seen:∀q k,q<j→N[q]?=some k→k.sym.term=true→xs[k.frm]?=some (k.sym.n:Int)
theorem WordSeen.mono{w:List Nat}{N:List Key}{j:Nat}{xs:List Int}(h:WordSeen w N j xs)(h2:∀k,N[j]?=some k→k.sym.term=false):WordSeen w N (j+1) xs:=
 ⟨h.len,fun q k hq hk ht=>by
  rcases Nat.lt_or_ge q j with h3 | h3
  ·exact h.seen q k h3 hk ht
  ·obtain rfl:q=j:=by omega
   rw[h2 k hk] at ht;cases ht⟩
end Go.Proofs.D