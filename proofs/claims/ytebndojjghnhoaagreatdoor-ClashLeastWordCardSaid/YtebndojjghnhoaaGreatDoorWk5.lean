/-
  Walks: what functions of the program do, over the abstract machine.
-/
import Derived.Test.YtebndojjghnhoaaGreatDoorWk4
set_option linter.unusedVariables false
set_option maxRecDepth 20000
set_option maxHeartbeats 0
open Go Go.Abs Go.Proofs Go.Proofs.D
namespace Go.Proofs.D
structure NextOk(g:Gram)(f:FSt)(xs:List Bool):Prop where
 len:xs.length=g.terms+1
 term:∀t,t<g.terms→(xs[t]?=some true↔∃x∈f.s.last,nextOf (trimmed f.E g).rules x=some ⟨true,t⟩)
 done:xs[g.terms]?=some (derives g f.w g.start 0 f.w.length)
structure SSt where
 k:Nat
 lists:List (List Item)
 sa:Option Addr
 sc:Nat
 BS:List (Nat×Blk)
 vs:List Value
 la:Option Addr
 lc:Nat
 BL:List (Nat×Blk)
 us:List Value
structure SOk(g:Gram)(Q:Nat→Item→Prop)(q:ChP)(F:Frz)(s:SSt):Prop where
 rules:Arr tRule F q.ra q.rm q.rc g.rules
 sets:GB tRaw F s.sa (s.k+1) s.sc s.BS s.vs
 list:GB tRaw F s.la (s.k+1) s.lc s.BL s.us
 len:s.lists.length=s.k+1
 olds:∀(j:Nat) (l:List Item),s.lists[j]?=some l→∃a n c,s.us[j]?=some (.slice a n c)∧Arr tItem F a n c l
 all:∀(j:Nat) (l:List Item),s.lists[j]?=some l→∀x∈l,Q j x
 small:s.k≤20
 olen:∀(j:Nat) (l:List Item),s.lists[j]?=some l→l.length≤3360
 nd:∀(j:Nat) (l:List Item),s.lists[j]?=some l→l.Nodup
theorem SOk.mono{g:Gram}{Q:Nat→Item→Prop}{q:ChP}{F G:Frz}{s:SSt}(h:SOk g Q q F s)(hF:Frz.le F G):SOk g Q q G s:=
 ⟨h.rules.mono hF,h.sets.mono hF,h.list.mono hF,h.len,fun j l hj=>by obtain⟨a,n,c,h1,h2⟩:=h.olds j l hj;exact⟨a,n,c,h1,h2.mono hF⟩,h.all,h.small,h.olen,h.nd⟩
def LZ(s:SSt):Nat→List Item:=fun j=>s.lists.getD j []
def restOf(s:CSt):SSt:=⟨s.k,s.old++[s.last],s.sa,s.sc,s.BS,s.vs++[.map (some s.im)],s.la,s.lc,s.BL,s.us++[.slice s.xa s.xn s.xc]⟩
theorem COk.rest{g:Gram}{Q:Nat→Item→Prop}{q:ChP}{F G:Frz}{s:CSt}(h:COk g Q q F s)(hfew:s.last.length≤3360)(hG:Frz.le F G)(hB:∀i b,(i,b)∈s.BX→G i=some b):SOk g Q q G (restOf s):=by
 have hol:=h.oldl;have hul:=h.usl;have hpass:∀j l,(s.old++[s.last])[j]?=some l→s.old[j]?=some l∨(j=s.k∧l=s.last):=by
  intro j l hj;rcases Nat.lt_or_ge j s.old.length with h1 | h1
  ·rw[List.getElem?_append_left h1] at hj;exact .inl hj
  ·rw[List.getElem?_append_right h1] at hj;have:=(gS hj).1;simp at this;have e:j-s.old.length=0:=by omega
   rw[e] at hj;exact .inr ⟨by omega,by simpa using hj.symm⟩
 refine⟨h.rules.mono hG,(h.sets.mono hG).gb,(h.list.mono hG).gb,by simp[restOf,hol],fun j l hj=>?_,fun j l hj x hx=>?_,h.small,fun j l hj=>?_,fun j l hj=>?_⟩
 ·rcases hpass j l hj with h1 | ⟨rfl,rfl⟩
  ·obtain⟨a,n,c,h2,h3⟩:=h.olds j l h1;exact⟨a,n,c,by show (s.us++[_])[j]?=_;rw[List.getElem?_append_left (gS h2).1];exact h2,h3.mono hG⟩
  ·exact⟨_,_,_,h.uk,h.last.frozen hG hB⟩
 ·rcases hpass j l hj with h1 | ⟨rfl,rfl⟩
  ·exact h.qold j l h1 x hx
  ·exact h.qlast x hx
 ·rcases hpass j l hj with h1 | ⟨rfl,rfl⟩
  ·exact h.olen j l h1
  ·exact hfew
 ·rcases hpass j l hj with h1 | ⟨rfl,rfl⟩
  ·exact h.ndold j l h1
  ·exact h.nodup
def QP(g:Gram)(w:List Nat):Nat→Item→Prop:=fun k x=>ItemOk g.rules k x∧(k≤w.length→∀L,Sets g (w.take k) L→x∈L k)
structure FZ where
 fi:Nat
 ga:Option Addr
 gm:Nat
 gc:Nat
 q:ChP
 s:SSt
 wa:Option Addr
 wn:Nat
 wc:Nat
 BW:List (Nat×Blk)
 w:List Nat
 E:List Bool
structure ZOk(g:Gram)(F:Frz)(f:FZ):Prop where
 rules:Arr tRule F f.ga f.gm f.gc g.rules
 ends:EndsIn g f.E
 chart:SOk (trimmed f.E g) (QP (trimmed f.E g) f.w) f.q F f.s
 k:f.s.k=f.w.length
 sets:Sets (trimmed f.E g) f.w (LZ f.s)
 word:GB tNat F f.wa f.wn f.wc f.BW f.w
 ok:∀t∈f.w,t<g.terms
theorem ZOk.mono{g:Gram}{F G:Frz}{f:FZ}(h:ZOk g F f)(hF:Frz.le F G):ZOk g G f:=⟨h.rules.mono hF,h.ends,h.chart.mono hF,h.k,h.sets,h.word.mono hF,h.ok⟩
structure NextZ(g:Gram)(f:FZ)(xs:List Bool):Prop where
 len:xs.length=g.terms+1
 term:∀t,t<g.terms→(xs[t]?=some true↔∃x∈LZ f.s f.s.k,nextOf (trimmed f.E g).rules x=some ⟨true,t⟩)
 done:xs[g.terms]?=some (derives g f.w g.start 0 f.w.length)
def DW(g:Gram)(y:List Nat)(l:List Sym):Prop:=Ders g y l 0 y.length
theorem DW.one{g:Gram}{y:List Nat}{s:Sym}(h:Der g y s 0 y.length):DW g y [s]:=.cons h .nil
theorem word_list{g:Gram}(hg:Valid g)(hP:∀n,n<g.nons→HasWord g n)(k d:Nat):∃v,DW g v ((rightL g k).drop d):=
 hasWord_list _ fun y hy=>by
  have:=rightL_ok hg k y (List.mem_of_mem_drop hy);obtain⟨b,n⟩:=y;cases b with
  | true=>exact .inl rfl
  | false=>exact .inr (hP n this)
inductive Spine(g:Gram)(w:List Nat)(p c:Nat):Sym→Nat→Nat→Prop
 | leaf:Spine g w p c ⟨true,c⟩ p 0
 | node {k:Nat} {r:Rule} {pre post:List Sym} {s:Sym} {ts:List Tree} {i m n:Nat}:g.rules[k]?=some r→r.right=pre++s::post→TreesOf g w pre ts i m→Spine g w p c s m n→Spine g w p c ⟨false,r.left⟩ i (n+(preL ts).length+1)
mutual
theorem TreeOf.spine{g:Gram}{w:List Nat}{p c:Nat}(hc:w[p]?=some c):∀{T:Tree} {X:Sym} {i j:Nat},TreeOf g w X T i j→i≤p→p<j→∃n,Spine g w p c X i n
 | .mk _ _ _,_,i,_,.leaf h,h1,h2=>by
  obtain rfl:i=p:=by omega
  rw[hc] at h;obtain rfl:=Option.some.inj h;exact⟨0,.leaf⟩
 | .mk _ _ ks,_,i,j,.node h h2,h3,h4=>by
  obtain⟨pre,s,post,ts,m,n,e1,e2,e3⟩:=TreesOf.spine hc h2 h3 h4;exact⟨_,.node h e1 e2 e3⟩
theorem TreesOf.spine{g:Gram}{w:List Nat}{p c:Nat}(hc:w[p]?=some c):∀{ts:List Tree} {l:List Sym} {i j:Nat},TreesOf g w l ts i j→i≤p→p<j→∃pre s post ts1 m n,l=pre++s::post∧TreesOf g w pre ts1 i m∧Spine g w p c s m n
 | [],_,i,_,.nil,h1,h2=>by omega
 | T::ts,_,i,j,.cons (s:=s) (l:=l) (m:=m) h1 h2,h3,h4=>by
  rcases Nat.lt_or_ge p m with h5 | h5
  ·obtain⟨n,hn⟩:=TreeOf.spine hc h1 h3 h5;exact⟨[],s,l,[],i,n,rfl,.nil,hn⟩
  ·obtain⟨pre,s',post,ts1,m',n,e1,e2,e3⟩:=TreesOf.spine hc h2 h5 h4;exact⟨s::pre,s',post,T::ts1,m',n,by rw[e1];rfl,.cons h1 e2,e3⟩
end
theorem BegL.app{g:Gram}{l m:List Sym}{t:Nat}(h:BegL g l t):BegL g (l++m) t:=by
 obtain⟨pre,s,post,e,h1,h2⟩:=h;exact⟨pre,s,post++m,by rw[e];simp,h1,h2⟩
theorem BegL.behind{g:Gram}:∀{l m:List Sym} {t:Nat},NulL g l→BegL g m t→BegL g (l++m) t
 | [],_,_,_,h=>h
 | s::l,m,t,hl,h=>BegL.cons (hl s me).1 (hl s me).2 (BegL.behind (fun x hx=>hl x (List.mem_cons_of_mem _ hx)) h)
theorem Spine.begin{g:Gram}{w:List Nat}{p c:Nat}(hc:w[p]?=some c){X:Sym}{i n:Nat}(h:Spine g w p c X i n):i≤p∧∃c',w[i]?=some c'∧(X=⟨true,c'⟩∨(X.term=false∧Beg g X.n c')):=by
 induction h with
 | leaf=>exact⟨Nat.le_refl _,c,hc,.inl rfl⟩
 | @node k r pre post s ts i m n hr he ht _ ih=>
  obtain⟨h1,c',h2,h3⟩:=ih;have hle:=(TreesOf.le ht).1;obtain⟨b1,b2⟩:=TreesOf.begin ht;have hm:=gM hr;refine⟨by omega,?_⟩;rcases Nat.lt_or_ge i m with h4 | h4
  ·obtain⟨c2,hc2,h5⟩:=b2 h4;exact⟨c2,hc2,.inr ⟨rfl,.of hm (by rw[he];exact h5.app)⟩⟩
  ·obtain rfl:i=m:=by omega
   exact⟨c',h2,.inr ⟨rfl,.of hm (by rw[he];exact BegL.behind (b1 rfl) (.head h3))⟩⟩
section
variable {g:Gram}{it:Nat→Lr→Prop}{la:Nat→Lr→Nat→Prop}{go:Nat→Sym→Option Nat}{act:Nat→Nat→Act}{w:List Nat}
theorem rest_some(hg:Valid g)(hP:∀n,n<g.nons→HasWord g n)(x:Lr):(∃t,BegL g (restL g x) t)∨NulL g (restL g x):=by
 obtain⟨v,hv⟩:=word_list hg hP x.rule (x.dot+1);obtain⟨ts,ht⟩:∃ts,TreesOf g v (restL g x) ts 0 v.length:=by
  have h:Ders g v (restL g x) 0 v.length:=hv;refine Ders.rec (motive_1:=fun s i j _=>∃T,TreeOf g v s T i j) (motive_2:=fun l i j _=>∃ts,TreesOf g v l ts i j) ?_ ?_ ?_ ?_ h
  ·intro t i h;exact⟨_,.leaf h⟩
  ·intro r i j hr _ ⟨ts,h2⟩;obtain⟨k,hk⟩:=List.getElem?_of_mem hr;exact⟨_,.node hk h2⟩
  ·intro i;exact⟨[],.nil⟩
  ·intro s l i m j _ _ ⟨T,h1⟩ ⟨ts,h2⟩;exact⟨_,.cons h1 h2⟩
 obtain⟨b1,b2⟩:=TreesOf.begin ht;rcases Nat.eq_zero_or_pos v.length with h | h
 ·exact .inr (b1 h.symm)
 ·obtain⟨c,_,h2⟩:=b2 h;exact .inl ⟨c,h2⟩
theorem la_some(hg:Valid g)(hP:∀n,n<g.nons→HasWord g n)(ok:LRok g it la go){s:Nat}{x:Lr}{k:Nat}{r:Rule}(hx:it s x)(hu:∃u,la s x u)(ha:afterL g x=some ⟨false,r.left⟩)(hr:g.rules[k]?=some r):∃u,la s ⟨k,0⟩ u:=by
 obtain⟨u,hu⟩:=hu;rcases rest_some hg hP x with ⟨t,h⟩ | h
 ·exact⟨t,ok.closL hx hu ha hr (.inl h)⟩
 ·exact⟨u,ok.closL hx hu ha hr (.inr ⟨h,hu⟩)⟩
theorem TreesOf.runPre(ok:LRok g it la go)(on:Only g it la go act)(hw:∀t∈w,t<g.terms){rest:List Sym}:∀{ts:List Tree} {l:List Sym} {i m:Nat},TreesOf g w l ts i m→∀{σ:List Nat} {τ:List Tree} {k d:Nat} {r:Rule},g.rules[k]?=some r→it (topS σ) ⟨k,d⟩→(∃u,la (topS σ) ⟨k,d⟩ u)→r.right.drop d=l++rest→BegL g rest (lookW g w m)→
  ∃σ' n,σ'.length=ts.length∧it (topS (σ++σ')) ⟨k,d+l.length⟩∧(∃u,la (topS (σ++σ')) ⟨k,d+l.length⟩ u)∧n≤(preL ts).length∧Run g go act w ((σ,τ),i) n ((σ++σ',τ++ts),m)
 | [],_,i,_,.nil,σ,τ,k,d,r,hk,hit,hla,hd,hb=>by
  refine⟨[],0,rfl,?_,?_,Nat.zero_le _,?_⟩
  ·rw[List.append_nil];exact hit
  ·rw[List.append_nil];exact hla
  ·rw[List.append_nil,List.append_nil];exact .refl
 | T::ts,s::l,i,j,.cons (m:=m) h1 h2,σ,τ,k,d,r,hk,hit,⟨u,hla⟩,hd,hb=>by
  have hd1:r.right[d]?=some s:=by rw[←List.head?_drop,hd];rfl
  have hd2:r.right.drop (d+1)=l++rest:=by rw[←List.tail_drop,hd];rfl
  have haf:afterL g ⟨k,d⟩=some s:=by rw[afterL_right];show (rightL g k)[d]?=_;rw[rightL_rule hk];exact hd1
  have hrest:restL g ⟨k,d⟩=l++rest:=by unfold restL;show (rightL g k).drop (d+1)=_;rw[rightL_rule hk];exact hd2
  obtain⟨b1,b2⟩:=TreesOf.begin h2;have hle:=(TreesOf.le h2).1;have hal:Allowed g la (topS σ) ⟨k,d⟩ (lookW g w m):=by
   unfold Allowed;rw[hrest];left;by_cases hm:m<j
   ·obtain⟨c,hc,h5⟩:=b2 hm;rw[lookW_at hc];exact h5.app
   ·obtain rfl:m=j:=by omega
    exact BegL.behind (b1 rfl) hb
  obtain⟨s',n1,e1,e2,e3⟩:=TreeOf.run ok on hw h1 hit ⟨_,hla⟩ haf hal;obtain⟨s2,f1,f2,f3⟩:=ok.step hit haf;rw[e1] at f1;obtain rfl:=Option.some.inj f1;obtain⟨σ',n2,g1,g2,g3,g4,g5⟩:=TreesOf.runPre ok on hw h2 (σ:=σ++[s']) (τ:=τ++[T]) (k:=k) (d:=d+1) (r:=r) hk (by rw[topS_snoc];exact f2) ⟨u,by rw[topS_snoc];exact f3 _ hla⟩ hd2 hb;have e:∀x:List Nat,σ++[s']++x=σ++(s'::x):=fun x=>by simp
  have e':∀x:List Tree,τ++[T]++x=τ++(T::x):=fun x=>by simp
  rw[e] at g2 g3 g5;rw[e'] at g5;have e6:d+1+l.length=d+(s::l).length:=by rw[List.length_cons];omega
  rw[e6] at g2 g3;refine⟨s'::σ',n1+n2,by rw[List.length_cons,g1];rfl,g2,g3,?_,e3.trans g5⟩;show _≤(T.pre++preL ts).length;rw[List.length_append];omega
theorem Spine.run(hg:Valid g)(hP:∀n,n<g.nons→HasWord g n)(ok:LRok g it la go)(on:Only g it la go act)(hw:∀t∈w,t<g.terms){p c:Nat}(hc:w[p]?=some c){X:Sym}{i n:Nat}(h:Spine g w p c X i n) :
  ∀{σ:List Nat} {τ:List Tree} {x:Lr},it (topS σ) x→(∃u,la (topS σ) x u)→afterL g x=some X→∃σ' τ' n' s',n'≤n∧Run g go act w ((σ,τ),i) n' ((σ',τ'),p)∧act (topS σ') c=.shift s':=by
 induction h with
 | leaf=>
  intro σ τ x hx hu ha;obtain⟨s',h1,h2,h3⟩:=ok.step hx ha;exact⟨σ,τ,0,s',Nat.le_refl _,.refl,on.all (.shift (hw c (gM hc)) h1)⟩
 | @node k r pre post s ts i m n hr he ht hs ih=>
  intro σ τ x hx hu ha;have hk0:=ok.clos hx ha hr;have hk1:=la_some hg hP ok hx hu ha hr;obtain⟨_,c',hc',hb⟩:=hs.begin hc;obtain⟨σ',n1,e1,e2,e3,e4,e5⟩:=TreesOf.runPre ok on hw ht (σ:=σ) (τ:=τ) (k:=k) (d:=0) (r:=r) (rest:=s::post) hr hk0 hk1 (by rw[List.drop_zero];exact he) (by rw[lookW_at hc'];exact .head hb);rw[Nat.zero_add] at e2 e3;have haf:afterL g ⟨k,pre.length⟩=some s:=by
   rw[afterL_right];show (rightL g k)[pre.length]?=_;rw[rightL_rule hr,he];simp
  obtain⟨σ2,τ2,n2,s',g1,g2,g3⟩:=ih (τ:=τ++ts) e2 e3 haf;exact⟨σ2,τ2,n1+n2,s',by omega,e5.trans g2,g3⟩
end
section
variable {α:Type}{R:Ty α}{F G H:Frz}{a:Option Addr}{n c:Nat}{B:List (Nat×Blk)}{xs:List α}
end
theorem natClone2_spec(F:Frz){a:Option Addr}{m c:Nat}{xs:List Nat}(hx:Arr tNat F a m c xs)(hm:m≤10000000) :
  Abs.Spec CC 66 [.slice a m c] F [] fun F' v o=>∃B',o=[B']∧∃a' c',v=.slice a' m c'∧Vec tNat F' a' m c' B' xs∧(a=none→GB tNat F' a' m c' B' xs):=by
 refine Abs.Spec.fn (n:=8) Tryz.func66 rfl rfl fun own=>?_;refine zB4 ?_;refine WT.sliceNil hT Z Z Z Z Z Z Z Z ?_;refine zB4 ?_;refine AW.cond Z (fun h=>?_) (fun h=>?_)
 ·obtain rfl:a=none:=by simpa using h
  obtain⟨rfl,rfl⟩:=hx.nil rfl;obtain rfl:xs=[]:=List.eq_nil_of_length_eq_zero hx.len.symm;refine zB4 ?_;refine AW.le (own2:=[]::own) (OwnLe.flat (List.Perm.refl _)) ?_;exact AW.ret ⟨_,[[]],⟨_,_,rfl,rfl,rfl⟩,zsb,_,rfl,_,_,rfl,(Bld.nil_ _ _).vec,fun _=>(Bld.nil_ _ _).gb⟩
 ·have hne:a≠none:=fun e=>by rw[e] at h;cases h
  refine zB4 ?_;refine WT.buildT hT Z Z Z Z Z Z Z Z Z Z Z Z Z Z (fun i5 hi5=>?_);refine zB4 ?_;obtain⟨ds,hds,hcs⟩:=news_arr hT hx (t:=22) rfl rfl 3;refine WT.appendE hT Z Z Z Z Z Z Z Z Z Z Z Z (fun h0 s0=>hds _ h0 s0) hcs hx.len (by decide) zom (fun a' c' B' hB' _=>?_);refine zB4 ?_;refine AW.le (OwnLe.cons _ (OwnLe.skip _ oR)) ?_;exact AW.ret ⟨_,[_],⟨_,_,rfl,rfl,rfl⟩,zsb,_,rfl,_,_,rfl,hB',fun h=>absurd h hne⟩
structure LRT(g:Gram)(T:Tab)(I:List (List Lr))(rows:List (List Int))(la:Nat→Lr→Nat→Prop):Prop where
 auto:AutoC g I rows
 lr:LRok g (itI I) la (goR g rows)
 only:Only g (itI I) la (goR g rows) (actT T)
 alen:T.act.length=I.length
 few:T.act.length≤400
 arow:∀r∈T.act,r.length=g.terms+1
 go:T.go=rows.map (·.drop g.terms)
section
variable {g:Gram}{T:Tab}{I:List (List Lr)}{rows:List (List Int)}{la:Nat→Lr→Nat→Prop}
end
structure PP where
 method:Nat
 a1:Option Addr
 n1:Nat
 c1:Nat
 a2:Option Addr
 n2:Nat
 c2:Nat
 a3:Option Addr
 n3:Nat
 c3:Nat
 ga:Option Addr
 gm:Nat
 gc:Nat
 sa:Option Addr
 sn:Nat
 sc:Nat
 ta:Option Addr
 tn:Nat
 tc:Nat
 read:Nat
structure PPOk(g:Gram)(T:Tab)(F:Frz)(p:PP)(σ:List Nat)(τ:List Tree):Prop where
 act:Arr (tList tAct) F p.a1 p.n1 p.c1 T.act
 go:Arr (tList tInt) F p.a2 p.n2 p.c2 T.go
 rules:Arr tRule F p.ga p.gm p.gc g.rules
 states:Arr tNat F p.sa p.sn p.sc σ
 trees:Arr tTree F p.ta p.tn p.tc τ
 first:τ=[]→p.ta=none
theorem PPOk.mono{g:Gram}{T:Tab}{F G:Frz}{p:PP}{σ:List Nat}{τ:List Tree}(h:PPOk g T F p σ τ)(hF:Frz.le F G):PPOk g T G p σ τ:=
 ⟨h.act.mono hF,h.go.mono hF,h.rules.mono hF,h.states.mono hF,h.trees.mono hF,h.first⟩
structure RdS where
 j:Nat
 xa:Option Addr
 xn:Nat
 xc:Nat
 B1:List (Nat×Blk)
 ya:Option Addr
 yn:Nat
 yc:Nat
 B2:List (Nat×Blk)
def PP.next(p:PP)(sa:Option Addr)(sn sc:Nat)(ta:Option Addr)(tn tc:Nat):PP:={ p with sa:=sa,sn:=sn,sc:=sc,ta:=ta,tn:=tn,tc:=tc,read:=p.read+1 }
structure ShS where
 p:PP
 σ:List Nat
 τ:List Tree
def LeastOk(g:Gram)(n e:Nat)(u:List Nat):Prop:=
 (e=0∧Lw g ⟨false,n⟩ u∧u.length≤2000∧∀u',Lw g ⟨false,n⟩ u'→u.length<u'.length∨(u.length=u'.length∧valN g.terms u≤valN g.terms u'))∨
 (e=5∧u=[]∧∀u',¬Lw g ⟨false,n⟩ u')∨(e=2∧u=[]∧∀u',Lw g ⟨false,n⟩ u'→2000<u'.length)
theorem uleast_spec(F:Frz)(g:Gram)(hg:Valid g){a:Option Addr}{m c:Nat}(hr:Arr tRule F a m c g.rules){i:Nat}(hi:i<g.nons) :
  Abs.Spec CC 36 [.agg ⟨gramCells g a m c⟩,.int .i64 i] F [] fun F' v o=>o=[]∧∃e a' n' c' u,v=.tuple ⟨[.slice a' n' c',.int .i64 (e:Nat)]⟩∧Arr tNat F' a' n' c' u∧LeastOk g i e u:=by
 have hgn:=hg.range.nons;unfold gramCells;refine Abs.Spec.fn (n:=42) Tryz.func36 rfl rfl fun own=>?_;refine AW.seq (AW.reg ?_);refine WT.boxT Z Z Z Z Z Z (fun i2 hi2=>?_);refine zC4 ?_;have hck:=check_spec F g hg.range hr;unfold gramCells at hck;refine WT.callV Tryz.func35 Z Z Z Z Z Z hck (fun v hv=>?_);rw[hg.no_err] at hv;subst hv;refine zC4 ?_;refine AW.cond Z (fun h=>(by cases h)) (fun _=>?_);refine zC4 ?_;refine AW.cond Z (fun h=>(by exfalso;simp at h;omega)) (fun _=>?_);refine zC4 ?_;have hln:=lengths_spec F g hg hr;unfold gramCells at hln
 refine WT.callN Tryz.func76 Z Z Z Z Z Z hln (fun F1 v B1 hF1 hv=>?_);obtain⟨O,oa,oc,rfl,hO,hOk,hOs,hOc⟩:=hv;refine WT.freezeAll 0 Z Z (fun F2 hF2 hB2=>?_);have hO:=hO.arr hF2 hB2;have hOl:=hOk.len;have hr2:=(hr.mono hF1).mono hF2;obtain⟨z,hz⟩:∃z,O[i]?=some z:=⟨_,gE zo⟩;have hzd:O.getD i (-1)=z:=by rw[List.getD_eq_getElem?_getD,hz];rfl
 refine zC4 ?_;refine AW.block ?_;refine zC4 ?_;refine WT.idxL hT hO Z Z Z Z Z Z Z Z Z zo (fun z2 hz2 b3 off3 ro3 cs3 lx3 hb3 hp3 hrel3=>?_);obtain rfl:z2=z:=by rw[hz] at hz2;exact(Option.some.inj hz2).symm
 obtain rfl:lx3=_:=hrel3;refine zC4 ?_;refine AW.cond Z (fun h=>?_) (fun h=>?_)
 ·have h:z2<0:=by simpa using h
  refine zC4 ?_;refine AW.ret ⟨_,[],⟨_,_,rfl,⟨_,_,rfl,rfl,rfl⟩,rfl⟩,zsb,rfl,5,_,_,_,_,rfl,Arr.nil_ _ _,.inr (.inl ⟨rfl,rfl,fun u' hu'=>?_⟩)⟩;have h1:=(len_least hOc hu').2.1;have h1:0≤O.getD i (-1):=h1;omega
 ·have h:0≤z2:=by simp at h;omega
  refine zC4 ?_;refine WT.idxL hT hO Z Z Z Z Z Z Z Z Z zo (fun z3 hz3 b4 off4 ro4 cs4 lx4 hb4 hp4 hrel4=>?_);obtain rfl:z3=z2:=by rw[hz] at hz3;exact(Option.some.inj hz3).symm
  obtain rfl:lx4=_:=hrel4;refine zC4 ?_;refine AW.cond Z (fun h2=>?_) (fun h2=>?_)
  ·have h2:2000<z3:=by simpa using h2
   refine zC4 ?_;refine AW.ret ⟨_,[],⟨_,_,rfl,⟨_,_,rfl,rfl,rfl⟩,rfl⟩,zsb,rfl,2,_,_,_,_,rfl,Arr.nil_ _ _,.inr (.inr ⟨rfl,rfl,fun u' hu'=>?_⟩)⟩;have h1:=(len_least hOc hu').2.2;have h1:O.getD i (-1)≤u'.length:=h1;omega
  ·have h2:z3≤2000:=by simp at h2;omega
   refine zC4 ?_;have hwd:=words_spec F2 g hg hr2 hO hOk hOc;unfold gramCells at hwd;refine WT.callF0 Tryz.func77 Z Z Z Z Z Z hwd (fun F3 v hF3 hv=>?_);obtain⟨wa,wc,W,K,rfl,hWa,hW,hWc⟩:=hv;obtain⟨u0,hu0,hl0⟩:∃u,Lw g ⟨false,i⟩ u∧(u.length:Int)=O.getD i (-1):=by
    obtain⟨u,h3,h4⟩:=hOs i z3 hz h;exact⟨u,lw_whole h3,by rw[hzd];exact h4⟩
   obtain⟨hk,_⟩:=words_least hg hOc hW hWc hu0 hl0 zo;obtain⟨hw1,hw2,_⟩:=hW.word i hk;obtain⟨u,hu⟩:∃u,W[i]?=some u:=⟨_,gE (by rw[hW.wlen];exact hi)⟩;have hud:W.getD i []=u:=by rw[List.getD_eq_getElem?_getD,hu];rfl
   rw[hud] at hw1 hw2;refine zC4 ?_;refine WT.idxL hT hWa Z Z Z Z Z Z Z Z Z (by rw[hW.wlen];exact hi) (fun u2 hu2 b5 off5 ro5 cs5 lx5 hb5 hp5 hrel5=>?_);obtain rfl:u2=u:=by rw[hu] at hu2;exact(Option.some.inj hu2).symm
   obtain⟨xa,xn,xc,rfl,hxa⟩:=hrel5;have hxl:=hxa.len;refine zC4 ?_;refine WT.callN Tryz.func66 Z Z Z Z Z Z (natClone2_spec F3 hxa zo) (fun F4 v B4 hF4 hv=>?_);obtain⟨ya,yc,rfl,hy,_⟩:=hv;refine WT.freezeAll 0 Z Z (fun F5 hF5 hB5=>?_);have hy:=hy.arr hF5 hB5;refine zC4 ?_;refine AW.ret ⟨_,[],⟨_,_,rfl,⟨_,_,rfl,rfl,rfl⟩,rfl⟩,zsb,rfl,0,_,_,_,_,rfl,hy,.inl ⟨rfl,hw1,by omega,fun u' hu'=>?_⟩⟩;have h3:=(len_least hOc hu').2.2;have h3:O.getD i (-1)≤u'.length:=h3;rcases Nat.lt_or_ge u2.length u'.length with h4 | h4
   ·exact .inl h4
   ·refine .inr ⟨by omega,?_⟩;have:=(words_least hg hOc hW hWc hu' zo zo).2;rw[hud] at this;exact this
structure CkS where
 a:Option Addr
 m:Nat
 c:Nat
 B:List (Nat×Blk)
 a2:Option Addr
 m2:Nat
 c2:Nat
 B2:List (Nat×Blk)
 us:List (List Nat)
 es:List Nat
theorem cleast_spec(F:Frz)(g:Gram)(hg:Valid g){a:Option Addr}{m c:Nat}(hr:Arr tRule F a m c g.rules) :
  Abs.Spec CC 10 [.agg ⟨gramCells g a m c⟩] F [] fun F' v o=>o=[]∧∃a1 n1 c1 a2 n2 c2 us,∃es:List Nat,v=.tuple ⟨[.slice a1 n1 c1,.slice a2 n2 c2,.int .i64 0]⟩∧Arr (tList tNat) F' a1 n1 c1 us∧Arr tBool F' a2 n2 c2 (es.map fun e=>decide (e=0))∧us.length=g.nons∧es.length=g.nons∧
   ∀n,n<g.nons→∃u e,us[n]?=some u∧es[n]?=some e∧LeastOk g n e u:=by
 have hgn:=hg.range.nons;unfold gramCells;refine Abs.Spec.fn (n:=39) Tryz.func10 rfl rfl fun own=>?_;refine AW.seq (AW.reg ?_);refine WT.boxT Z Z Z Z Z Z (fun i1 hi1=>?_);refine zC4 ?_;have hck:=check_spec F g hg.range hr;unfold gramCells at hck;refine WT.callV Tryz.func35 Z Z Z Z Z Z hck (fun v hv=>?_);rw[hg.no_err] at hv;subst hv;refine zC4 ?_;refine AW.cond Z (fun h=>(by cases h)) (fun _=>?_);refine zC4 ?_
 refine AW.range (S:=CkS) (fun s=>[(6,.slice s.a s.m s.c),(7,.slice s.a2 s.m2 s.c2)]) (fun s=>s.B::s.B2::[(i1,.cells false [.int .i64 g.terms,.int .i64 g.nons,.int .i64 g.start,.slice a m c])]::own)
  (fun j s G=>Bld (tList tNat) G s.a s.m s.c s.B s.us∧Bld tBool G s.a2 s.m2 s.c2 s.B2 (s.es.map fun e=>decide (e=0))∧s.us.length=j∧s.es.length=j∧∀n,n<j→∃u e,s.us[n]?=some u∧s.es[n]?=some e∧LeastOk g n e u) g.nons ⟨none,0,0,[],none,0,0,[],[],[]⟩
  Z Z Z Z Z Z Z Z Z zo rfl rfl (fun _=>rfl) (fun _=>rfl) sM (OwnLe.flat (List.Perm.refl _)) ⟨Bld.nil_ _ _,Bld.nil_ _ _,rfl,rfl,fun n h=>by omega⟩ ?_ ?_
 ·intro j s F1 hF1 hj hP;obtain⟨sa,sm,sc,sB,sa2,sm2,sc2,sB2,us,es⟩:=s;obtain⟨hb,hb2,hul,hel,hall⟩:=hP;dsimp only at hb hb2 hul hel hall ⊢;have hbl:=hb.len;have hbl2:=hb2.len;rw[List.length_map] at hbl2;refine zC4 ?_;have hus:=uleast_spec F1 g hg (hr.mono hF1) hj;unfold gramCells at hus;refine WT.callF0 Tryz.func36 Z Z Z Z Z Z hus (fun F2 v hF2 hv=>?_);obtain⟨e,xa,xn,xc,u,rfl,hxa,hlo⟩:=hv;refine zC4 ?_;refine WT.buildT hT Z Z Z Z Z Z Z Z Z Z Z Z Z Z (fun i29 hi29=>?_)
  refine WT.appendT (R:=tList tNat) (ys:=[u]) hT 1 (hb.mono hF2) Z (fun _=>rfl) Z Z Z Z Z Z Z Z Z Z Z (fun h0 s0=>news_own hT s0 0 Z Z Z Z) (Cells.single (R:=tList tNat) (x:=u) ⟨_,_,_,rfl,hxa⟩) Z (by decide) zom (fun a3 c3 B3 hB3=>?_);refine zC4 ?_;refine WT.know (v':=.bool (decide (e=0))) 33 Z (congrArg Value.bool (by rw[Bool.eq_iff_iff];simp)) ?_;refine WT.buildT hT Z Z Z Z Z Z Z Z Z Z Z Z Z Z (fun i34 hi34=>?_)
  refine WT.appendT (R:=tBool) (ys:=[decide (e=0)]) hT 3 (hb2.mono hF2) Z (fun _=>rfl) Z Z Z Z Z Z Z Z Z Z Z (fun h0 s0=>news_own hT s0 0 Z Z Z Z) (Cells.single (R:=tBool) (x:=decide (e=0)) rfl) Z (by decide) zom (fun a4 c4 B4 hB4=>?_);refine zC4 ?_;refine⟨⟨a3,sm+1,c3,B3,a4,sm2+1,c4,B4,us++[u],es++[e]⟩,sM,zow,hB3,?_,by simp[hul],by simp[hel],fun n hn=>?_⟩
  ·dsimp only;rw[List.map_append];exact hB4
  ·rcases Nat.lt_or_ge n j with h | h
   ·obtain⟨u1,e1,h1,h2,h3⟩:=hall n h;exact⟨u1,e1,by rw[List.getElem?_append_left zo];exact h1,by rw[List.getElem?_append_left zo];exact h2,h3⟩
   ·obtain rfl:n=j:=by omega
    exact⟨u,e,by rw[List.getElem?_append_right zo];simp[hul],by rw[List.getElem?_append_right zo];simp[hel],hlo⟩
 ·intro s F1 hF1 hP;obtain⟨sa,sm,sc,sB,sa2,sm2,sc2,sB2,us,es⟩:=s;obtain⟨hb,hb2,hul,hel,hall⟩:=hP;dsimp only at hb hb2 hul hel hall ⊢;refine AW.freezeAll 0 Z Z (fun F2 hF2 hB2=>?_);have h1:=hb.frozen hF2 hB2;refine AW.freezeAll 1 Z Z (fun F3 hF3 hB3=>?_);have h2:=(hb2.mono hF2).frozen hF3 hB3;refine zC4 ?_;exact AW.ret ⟨_,[],⟨_,_,rfl,⟨_,_,rfl,⟨_,_,rfl,rfl,rfl⟩,rfl⟩,rfl⟩,zsb,rfl,_,_,_,_,_,_,us,es,rfl,h1.mono hF3,h2,hul,hel,hall⟩
theorem before_spec(F:Frz){a b:Option Addr}{m n c d:Nat}{xs ys:List Nat}(hx:Arr tNat F a m c xs)(hy:Arr tNat F b n d ys)(h1:m≤10000)(h2:n≤10000) :
  Abs.Spec CC 13 [.slice a m c,.slice b n d] F [] fun _ v o=>o=[]∧v=.bool (decide (xs.length<ys.length∨(xs.length=ys.length∧cmpNats xs ys<0))):=by
 have hxl:=hx.len;have hyl:=hy.len;refine Abs.Spec.fn (n:=23) Tryz.func13 rfl rfl fun own=>?_;refine zB4 ?_;rcases Nat.lt_or_ge m n with h | h
 ·refine WT.know (v':=.bool true) 10 Z (by congr 1;simp;omega) ?_;refine zB4 ?_;refine AW.ret ⟨_,[],⟨_,_,rfl,rfl,rfl⟩,zsb,rfl,?_⟩;rw[decide_eq_true (.inl zo)];rfl
 ·refine WT.know (v':=.bool false) 10 Z (by congr 1;simp;omega) ?_;refine zB4 ?_;by_cases e:m=n
  ·refine WT.know (v':=.bool true) 16 Z (by congr 1;simp;omega) ?_;refine zB4 ?_;refine WT.callV Tryz.func41 Z Z Z Z Z Z (numCompare_spec _ hx hy zo zo) (fun v hv=>?_);subst hv;refine zB4 ?_;refine AW.ret ⟨_,[],⟨_,_,rfl,rfl,rfl⟩,zsb,rfl,?_⟩;show Value.bool (decide (cmpNats xs ys<0))=_;congr 1;rw[decide_eq_decide];constructor
   ·intro h3;exact .inr ⟨by omega,h3⟩
   ·rintro(h3 | h3)
    ·omega
    ·exact h3.2
  ·refine WT.know (v':=.bool false) 16 Z (by congr 1;simp;omega) ?_;refine zB4 ?_;refine AW.ret ⟨_,[],⟨_,_,rfl,rfl,rfl⟩,zsb,rfl,?_⟩;rw[decide_eq_false (fun h3=>by rcases h3 with h3 | h3<;>omega)];rfl
def ResOk(g:Gram)(w:List Nat)(F:Frz)(s:Sym)(i:Nat)(v:Value):Prop:=
 v=.agg ⟨[.pointer none,.int .i64 (-1)]⟩∨∃b ro cs t j,v=.agg ⟨[.pointer (some ⟨b,0,none⟩),.int .i64 (j:Nat)]⟩∧F b=some (.cells ro cs)∧tTree.rel F cs t∧TreeOf g w s t i j
theorem ResOk.mono{g:Gram}{w:List Nat}{F G:Frz}{s:Sym}{i:Nat}{v:Value}(h:ResOk g w F s i v)(hF:Frz.le F G):ResOk g w G s i v:=by
 rcases h with h | ⟨b,ro,cs,t,j,h1,h2,h3,h4⟩
 ·exact .inl h
 ·exact .inr ⟨b,ro,cs,t,j,h1,hF _ _ h2,tTree.mono _ _ _ _ hF h3,h4⟩
def MemoOk(g:Gram)(w:List Nat)(F:Frz)(es:Ents (Nat×Nat)):Prop:=∀n i v,Abs.look es (n,i)=some v→ResOk g w F ⟨false,n⟩ i v
theorem MemoOk.mono{g:Gram}{w:List Nat}{F G:Frz}{es:Ents (Nat×Nat)}(h:MemoOk g w F es)(hF:Frz.le F G):MemoOk g w G es:=fun n i v q=>(h n i v q).mono hF
structure PA where
 p:Nat
 im:Nat
 a:Option Addr
 m:Nat
 c:Nat
 b:Option Addr
 k:Nat
 d:Nat
structure ParserAt(F:Frz)(x:PA)(g:Gram)(w:List Nat):Prop where
 blk:∃ro,F x.p=some (.cells ro [.int .i64 g.terms,.int .i64 g.nons,.int .i64 g.start,.slice x.a x.m x.c,.slice x.b x.k x.d,.map (some x.im)])
 rules:Arr tRule F x.a x.m x.c g.rules
 word:Arr tNat F x.b x.k x.d w
theorem ParserAt.mono{F G:Frz}{x:PA}{g:Gram}{w:List Nat}(h:ParserAt F x g w)(hF:Frz.le F G):ParserAt G x g w:=
 ⟨let ⟨ro,q⟩:=h.blk;⟨ro,hF _ _ q⟩,h.rules.mono hF,h.word.mono hF⟩
structure PkI where
 ks:List Tree
 a:Option Addr
 c:Nat
 Bk:List (Nat×Blk)
 B:List (Nat×Blk)
 e:Int
 l:Nat
structure PO where
 q:Option Addr
 e:Int
 B:List (Nat×Blk)
structure RS where
 xs:List Nat
 a:Option Addr
 c:Nat
 B:List (Nat×Blk)
theorem least_has{g:Gram}{e:Nat}{u w:List Nat}{n:Nat}(h:LeastOk g n e u)(hw:Lw g ⟨false,n⟩ w)(hl:w.length≤2000):e=0∧(u.length<w.length∨(u.length=w.length∧valN g.terms u≤valN g.terms w)):=by
 rcases h with ⟨rfl,hu,_,hl⟩ | ⟨_,_,hn⟩ | ⟨_,_,hn⟩
 ·exact⟨rfl,hl w hw⟩
 ·exact absurd hw (hn w)
 ·have:=hn w hw;omega
theorem least_before{g:Gram}(hg:Valid g){u w:List Nat}{n:Nat}(hn:n<g.nons)(hu:Lw g ⟨false,n⟩ u)(hw:∀t∈w,t<g.terms)(h:u.length<w.length∨(u.length=w.length∧valN g.terms u≤valN g.terms w)):¬(w.length<u.length∨(w.length=u.length∧cmpNats w u<0)):=by
 have hd:=hu.digits hg (show SymOk g.terms g.nons ⟨false,n⟩ from hn);rintro(h1 | ⟨h1,h2⟩)
 ·omega
 ·have:=(valN_cmp h1 hw hd).1 h2;omega
theorem leastWord_law(F:Frz)(hLd:Laid F){a b:Option Addr}{m n c d:Nat}{l w0:List Int}(hl:Arr tInt F a m c l)(hw0:Arr tInt F b n d w0)(hm:n≤9223372036854775807) :
  Abs.Spec CC 3 [.slice a m c,.slice b n d] F [] fun _ v o=>o=[]∧v=.bool true:=by
 refine Abs.Spec.fn (n:=101) Tryz.func3 rfl rfl fun own=>?_;refine zB4 ?_;refine WT.callF0 Tryz.func9 Z Z Z Z Z Z (made_spec _ hl hw0 hm 10 (by decide)) (fun F1 v hF1 hv=>?_);obtain⟨g,ga,gm,gc,wa,wn,wc,w,rfl,hg,hr,hw,hw1,hw2⟩:=hv;have hL1:=hLd.mono hF1;have hgv:=hg.valid;have hgt:=hg.terms;have hwl:=hw.len;have hgs:=hgv.range.start;have hcl:=cleast_spec F1 g hgv hr;unfold gramCells at hcl ⊢;refine zC4 ?_;refine WT.allocT hT Z Z Z Z Z Z (fun i5 hi5=>?_);refine zC4 ?_;refine WT.callF0 Tryz.func10 Z Z Z Z Z Z hcl (fun F2 v hF2 hv=>?_);obtain⟨a1,n1,c1,a2,n2,c2,us,es,rfl,hus,hes,hul,hel,hle⟩:=hv
 have hL2:=hL1.mono hF2;have hr2:=hr.mono hF2;have hw3:=hw.mono hF2;have hn1:n1=g.nons:=by rw[hus.len,hul]
 have hn2:n2=g.nons:=by rw[hes.len,List.length_map,hel]
 obtain⟨u,e,hu,he,hleast⟩:=hle g.start hgs;have heb:(es.map fun e=>decide (e=0))[g.start]?=some (decide (e=0)):=by rw[List.getElem?_map,he];rfl
 have hac:=accepts_spec F2 hL2 g hgv hr2 hw3 zo hw2;unfold gramCells at hac;refine zC4 ?_;refine WT.callV Tryz.func11 Z Z Z Z Z Z hac (fun v hv=>?_);subst hv;generalize hdv:derives g w g.start 0 w.length=dv;refine zC4 ?_;refine WT.callV Tryz.func12 Z Z Z Z Z Z (Abs.Spec.fact Z hL2) (fun v hv=>?_);subst hv;have hus3:=hus;have hes3:=hes;have hw4:=hw3;have hr3:=hr2;have hL3:=hL2;refine zC4 ?_;refine WT.know (v':=.bool false) 46 Z (by congr 1;simp;omega) ?_;refine zC4 ?_;refine AW.cond Z (fun h=>(by exfalso;simp at h;omega)) (fun _=>?_)
 have hhas:dv=true→e=0∧(u.length<w.length∨(u.length=w.length∧valN g.terms u≤valN g.terms w)):=fun h=>least_has hleast (lw_whole (derives_iff.1 (hdv.trans h))) zo;have hlong:u.length≤2000:=by
  rcases hleast with ⟨_,_,h,_⟩ | ⟨_,rfl,_⟩ | ⟨_,rfl,_⟩
  ·exact h
  ·exact Nat.zero_le _
  ·exact Nat.zero_le _
 refine AW.skip ?_;refine AW.seq ?_;refine AW.jnT (S:=Unit) (fun _=>[]) (fun _=>[(i5,.cells false [.int .i64 g.terms,.int .i64 g.nons,.int .i64 g.start,.slice ga gm gc])]::own) (fun _ _=>True) ?_ (fun _ F4 hF4 _=>?_)
 ·cases dv with
  | false=>
   refine zC4 ?_;refine AW.cond Z (fun h=>(by cases h)) (fun _=>?_);refine zC4 ?_;exact⟨(),sM,zow,trivial⟩
  | true=>
   obtain⟨rfl,hb⟩:=hhas rfl;refine zC4 ?_;refine WT.idxL hT hes3 Z Z Z Z Z Z Z Z Z (by rw[List.length_map,hel];exact hgs) (fun b2 hb2 b58 off58 ro58 cs58 lx58 hb58 hp58 hrel58=>?_);obtain rfl:b2=true:=by rw[heb] at hb2;exact(Option.some.inj hb2).symm
   obtain rfl:lx58=_:=hrel58;refine zC4 ?_;refine WT.idxL hT hus3 Z Z Z Z Z Z Z Z Z (by rw[hul];exact hgs) (fun u2 hu2 b66 off66 ro66 cs66 lx66 hb66 hp66 hrel66=>?_);obtain rfl:u2=u:=by rw[hu] at hu2;exact(Option.some.inj hu2).symm
   obtain⟨xa,xn,xc,rfl,hxa⟩:=hrel66;have hxl:=hxa.len;refine zC4 ?_;refine WT.callV Tryz.func13 Z Z Z Z Z Z (before_spec _ hw4 hxa zo zo) (fun v hv=>?_);have hlu:Lw g ⟨false,g.start⟩ u2:=by
    rcases hleast with ⟨_,h,_⟩ | ⟨h,_⟩ | ⟨h,_⟩
    ·exact h
    ·cases h
    ·cases h
   rw[decide_eq_false (least_before hgv hgs hlu hw2 hb)] at hv;subst hv;refine zC4 ?_;refine AW.cond Z (fun h=>(by cases h)) (fun _=>?_);refine zC4 ?_;exact⟨(),sM,zow,trivial⟩
 ·have hus4:=hus3.mono hF4;have hes4:=hes3.mono hF4;have hr4:=hr3.mono hF4;have hL4:=hL3.mono hF4;refine zC4 ?_;refine WT.idxL hT hes4 Z Z Z Z Z Z Z Z Z (by rw[List.length_map,hel];exact hgs) (fun b2 hb2 b74 off74 ro74 cs74 lx74 hb74 hp74 hrel74=>?_);obtain rfl:b2=decide (e=0):=by rw[heb] at hb2;exact(Option.some.inj hb2).symm
  obtain rfl:lx74=_:=hrel74;by_cases he0:e=0
  ·subst he0;have hlu:Lw g ⟨false,g.start⟩ u:=by
    rcases hleast with ⟨_,h,_⟩ | ⟨h,_⟩ | ⟨h,_⟩
    ·exact h
    ·cases h
    ·cases h
   have hdig:=hlu.digits hgv (show SymOk g.terms g.nons ⟨false,g.start⟩ from hgs);refine zC4 ?_;refine WT.idxL hT hus4 Z Z Z Z Z Z Z Z Z (by rw[hul];exact hgs) (fun u2 hu2 b81 off81 ro81 cs81 lx81 hb81 hp81 hrel81=>?_);obtain rfl:u2=u:=by rw[hu] at hu2;exact(Option.some.inj hu2).symm
   obtain⟨xa,xn,xc,rfl,hxa⟩:=hrel81;have hxl:=hxa.len;refine zC4 ?_;refine AW.cond Z (fun h=>?_) (fun h=>?_)
   ·refine zC4 ?_;exact AW.ret ⟨_,[],⟨_,_,rfl,rfl,rfl⟩,zsb,rfl,rfl⟩
   ·have h12:xn≤12:=by
     have h:=of_decide_eq_false h;omega
    refine zC4 ?_;refine WT.idxL hT hus4 Z Z Z Z Z Z Z Z Z (by rw[hul];exact hgs) (fun u3 hu3 b91 off91 ro91 cs91 lx91 hb91 hp91 hrel91=>?_);obtain rfl:u3=u2:=by rw[hu] at hu3;exact(Option.some.inj hu3).symm
    obtain⟨ya,yn,yc,rfl,hya⟩:=hrel91;have hac2:=accepts_spec F4 hL4 g hgv hr4 hya zo hdig;unfold gramCells at hac2;rw[derives_iff.2 hlu.der] at hac2;refine zC4 ?_;refine WT.callV Tryz.func11 Z Z Z Z Z Z hac2 (fun v hv=>?_);subst hv;refine zC4 ?_;exact AW.ret ⟨_,[],⟨_,_,rfl,rfl,rfl⟩,zsb,rfl,rfl⟩
  ·rw[decide_eq_false he0] at *;refine zC4 ?_;refine AW.cond Z (fun _=>?_) (fun h=>(by cases h));refine zC4 ?_;exact AW.ret ⟨_,[],⟨_,_,rfl,rfl,rfl⟩,zsb,rfl,rfl⟩
end Go.Proofs.D