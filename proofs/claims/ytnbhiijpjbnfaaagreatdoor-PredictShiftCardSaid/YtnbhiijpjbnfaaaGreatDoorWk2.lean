/-
  Walks: what functions of the program do, over the abstract machine.
-/
import Derived.Test.YtnbhiijpjbnfaaaGreatDoorWk1
set_option linter.unusedVariables false
set_option maxRecDepth 20000
set_option maxHeartbeats 0
open Go Go.Abs Go.Proofs Go.Proofs.D
namespace Go.Proofs.D
structure SSt where
 k:Nat
 lists:List (List Item)
 sa:Option Addr
 sc:Nat
 BS:List (Nat×Blk)
 vs:List Value
 la:Option Addr
 lc:Nat
 BL:List (Nat×Blk)
 us:List Value
structure SOk(g:Gram)(Q:Nat→Item→Prop)(q:ChP)(F:Frz)(s:SSt):Prop where
 rules:Arr tRule F q.ra q.rm q.rc g.rules
 sets:GB tRaw F s.sa (s.k+1) s.sc s.BS s.vs
 list:GB tRaw F s.la (s.k+1) s.lc s.BL s.us
 len:s.lists.length=s.k+1
 olds:∀(j:Nat) (l:List Item),s.lists[j]?=some l→∃a n c,s.us[j]?=some (.slice a n c)∧Arr tItem F a n c l
 all:∀(j:Nat) (l:List Item),s.lists[j]?=some l→∀x∈l,Q j x
 small:s.k≤20
 olen:∀(j:Nat) (l:List Item),s.lists[j]?=some l→l.length≤3360
 nd:∀(j:Nat) (l:List Item),s.lists[j]?=some l→l.Nodup
theorem SOk.mono{g:Gram}{Q:Nat→Item→Prop}{q:ChP}{F G:Frz}{s:SSt}(h:SOk g Q q F s)(hF:Frz.le F G):SOk g Q q G s:=
 ⟨h.rules.mono hF,h.sets.mono hF,h.list.mono hF,h.len,fun j l hj=>by obtain⟨a,n,c,h1,h2⟩:=h.olds j l hj;exact⟨a,n,c,h1,h2.mono hF⟩,h.all,h.small,h.olen,h.nd⟩
def LZ(s:SSt):Nat→List Item:=fun j=>s.lists.getD j []
def QP(g:Gram)(w:List Nat):Nat→Item→Prop:=fun k x=>ItemOk g.rules k x∧(k≤w.length→∀L,Sets g (w.take k) L→x∈L k)
structure FZ where
 fi:Nat
 ga:Option Addr
 gm:Nat
 gc:Nat
 q:ChP
 s:SSt
 wa:Option Addr
 wn:Nat
 wc:Nat
 BW:List (Nat×Blk)
 w:List Nat
 E:List Bool
structure ZOk(g:Gram)(F:Frz)(f:FZ):Prop where
 rules:Arr tRule F f.ga f.gm f.gc g.rules
 ends:EndsIn g f.E
 chart:SOk (trimmed f.E g) (QP (trimmed f.E g) f.w) f.q F f.s
 k:f.s.k=f.w.length
 sets:Sets (trimmed f.E g) f.w (LZ f.s)
 word:GB tNat F f.wa f.wn f.wc f.BW f.w
 ok:∀t∈f.w,t<g.terms
theorem ZOk.mono{g:Gram}{F G:Frz}{f:FZ}(h:ZOk g F f)(hF:Frz.le F G):ZOk g G f:=⟨h.rules.mono hF,h.ends,h.chart.mono hF,h.k,h.sets,h.word.mono hF,h.ok⟩
structure NextZ(g:Gram)(f:FZ)(xs:List Bool):Prop where
 len:xs.length=g.terms+1
 term:∀t,t<g.terms→(xs[t]?=some true↔∃x∈LZ f.s f.s.k,nextOf (trimmed f.E g).rules x=some ⟨true,t⟩)
 done:xs[g.terms]?=some (derives g f.w g.start 0 f.w.length)
theorem ders_append{g:Gram}{w:List Nat}{l2:List Sym}:∀{l:List Sym} {i m j:Nat},Ders g w l i m→Ders g w l2 m j→Ders g w (l++l2) i j
 | [],i,m,j,h1,h2=>by rw[ders_nil.1 h1];exact h2
 | a::l,i,m,j,h1,h2=>by
  obtain⟨p,h3,h4⟩:=ders_cons.1 h1;exact .cons h3 (ders_append h4 h2)
def DW(g:Gram)(y:List Nat)(l:List Sym):Prop:=Ders g y l 0 y.length
theorem DW.app{g:Gram}{y z:List Nat}{l m:List Sym}(h1:DW g y l)(h2:DW g z m):DW g (y++z) (l++m):=by
 have h3:=ders_wrap (u:=[]) (v:=z) h1;have h4:=ders_wrap (u:=y) (v:=[]) h2;simp only[List.nil_append,List.append_nil,List.length_nil,Nat.zero_add,Nat.add_zero] at h3 h4;unfold DW;rw[List.length_append];exact ders_append h3 h4
theorem DW.one{g:Gram}{y:List Nat}{s:Sym}(h:Der g y s 0 y.length):DW g y [s]:=.cons h .nil
theorem Der.tree{g:Gram}{w:List Nat}{s:Sym}{i j:Nat}(h:Der g w s i j):∃T,TreeOf g w s T i j:=by
 refine Der.rec (motive_1:=fun s i j _=>∃T,TreeOf g w s T i j) (motive_2:=fun l i j _=>∃ts,TreesOf g w l ts i j) ?_ ?_ ?_ ?_ h
 ·intro t i h;exact⟨_,.leaf h⟩
 ·intro r i j hr _ ⟨ts,h2⟩;obtain⟨k,hk⟩:=List.getElem?_of_mem hr;exact⟨_,.node hk h2⟩
 ·intro i;exact⟨[],.nil⟩
 ·intro s l i m j _ _ ⟨T,h1⟩ ⟨ts,h2⟩;exact⟨_,.cons h1 h2⟩
def GoodI(g:Gram)(u:List Nat)(i:Nat)(x:Lr):Prop:=∃z,∀y,DW g y ((rightL g x.rule).drop x.dot)→Der g (u.take i++(y++z)) ⟨false,g.start⟩ 0 (u.take i++(y++z)).length
theorem word_list{g:Gram}(hg:Valid g)(hP:∀n,n<g.nons→HasWord g n)(k d:Nat):∃v,DW g v ((rightL g k).drop d):=
 hasWord_list _ fun y hy=>by
  have:=rightL_ok hg k y (List.mem_of_mem_drop hy);obtain⟨b,n⟩:=y;cases b with
  | true=>exact .inl rfl
  | false=>exact .inr (hP n this)
theorem drop_at{α:Type}{l:List α}{d:Nat}{a:α}(h:l[d]?=some a):l.drop d=a::l.drop (d+1):=List.drop_eq_getElem?_toList_append.trans (by rw[h];rfl)
theorem clos_good{g:Gram}(hg:Valid g)(hP:∀n,n<g.nons→HasWord g n){u:List Nat}{i:Nat}{l:List Lr}(hl:∀x∈l,GoodI g u i x){x:Lr}(h:Clos g l x):GoodI g u i x:=by
 induction h with
 | base h=>exact hl _ h
 | @more x n k r h1 ha hr hn ih=>
  obtain⟨z,hz⟩:=ih;rw[afterL_right] at ha;obtain⟨v,hv⟩:=word_list hg hP x.rule (x.dot+1);refine⟨v++z,fun y hy=>?_⟩;have hy:DW g y ((rightL g k).drop 0):=hy;rw[List.drop_zero,rightL_rule hr] at hy;have:=hz (y++v) (by
   rw[drop_at ha];exact DW.app (l:=[⟨false,n⟩]) (.one (by rw[←hn];exact .non (gM hr) hy)) hv)
  rw[List.append_assoc] at this;exact this
theorem part_glue{u y z:List Nat}{i j:Nat}(h:i≤j):u.take i++((u.take j).drop i++y++z)=u.take j++(y++z):=by
 rw[List.append_assoc,←List.append_assoc];congr 1;have:u.take i=(u.take j).take i:=by rw[List.take_take,Nat.min_eq_left h]
 rw[this,List.take_append_drop]
theorem LStk.good{g:Gram}{I:List (List Lr)}{rows:List (List Int)}(hg:Valid g)(hA:AutoC g I rows)(hP:∀n,n<g.nons→HasWord g n){u:List Nat}{σ:List Nat}{τ:List Tree}{i:Nat}(h:LStk g (goR g rows) u σ τ i) :
  i≤u.length→∀x,itI I (topS σ) x→GoodI g u i x:=by
 induction h with
 | nil=>
  intro _ x ⟨st,hst,hx⟩;obtain⟨st0,hst0,hz⟩:=hA.zero;rw[show topS [0]=0 from rfl,hst0] at hst;obtain rfl:=Option.some.inj hst;refine clos_good hg hP (fun x hx=>?_) ((hz _).1 hx);rw[List.mem_singleton.1 hx];refine⟨[],fun y hy=>?_⟩;have hy:DW g y ((rightL g g.rules.length).drop 0):=hy;rw[rightL_start] at hy;obtain⟨m,h1,h2⟩:=ders_cons.1 (show Ders g y (⟨false,g.start⟩::[]) 0 y.length from hy);rw[ders_nil.1 h2] at h1;rw[List.take_zero,List.nil_append,List.append_nil];exact h1
 | @snoc σ τ i j s s' y T h1 h2 h3 ih=>
  intro hj x ⟨st1,hst1,hx⟩;rw[topS_snoc] at hst1;obtain⟨st,st',e1,e2,_,e4⟩:=hA.goes hg h2;rw[e2] at hst1;obtain rfl:=Option.some.inj hst1;have hij:=(TreeOf.le h3).1;refine clos_good hg hP (fun x hx=>?_) ((e4 _).1 hx);obtain⟨x0,f1,f2,rfl⟩:=mem_kern.1 hx;obtain⟨z,hz⟩:=ih zo x0 ⟨st,by rw[topS_snoc];exact e1,f1⟩;rw[afterL_right] at f2;refine⟨z,fun y2 hy2=>?_⟩;have hp:=part_der (a:=i) (b:=j) hj (TreeOf.toDer h3) (Nat.le_refl _) (Nat.le_refl _);have hlen:((u.take j).drop i).length=j-i:=by simp;omega
  have:=hz ((u.take j).drop i++y2) (by
   rw[drop_at f2];refine DW.app (l:=[y]) (.one ?_) hy2;rw[hlen,Nat.sub_self] at *;exact hp)
  rw[part_glue hij] at this;exact this
theorem LStk.viable{g:Gram}{I:List (List Lr)}{rows:List (List Int)}(hg:Valid g)(hA:AutoC g I rows)(hP:∀n,n<g.nons→HasWord g n){u:List Nat}{σ:List Nat}{τ:List Tree}{i:Nat}(h:LStk g (goR g rows) u σ τ i)(hi:i≤u.length) :
  ∃v,Der g (u.take i++v) ⟨false,g.start⟩ 0 (u.take i++v).length:=by
 obtain⟨x,hx⟩:∃x,itI I (topS σ) x:=by
  cases h with
  | nil=>
   obtain⟨st0,hst0,hz⟩:=hA.zero;exact⟨_,st0,hst0,(hz _).2 (.base (List.mem_singleton.2 rfl))⟩
  | snoc h1 h2 h3=>
   obtain⟨st,st',e1,e2,e3,e4⟩:=hA.goes hg h2;obtain⟨z,hz⟩:=List.exists_mem_of_ne_nil _ e3;exact⟨z,st',by rw[topS_snoc];exact e2,(e4 _).2 (.base hz)⟩
 obtain⟨z,hz⟩:=h.good hg hA hP hi x hx;obtain⟨v,hv⟩:=word_list hg hP x.rule x.dot;exact⟨v++z,hz v hv⟩
inductive Spine(g:Gram)(w:List Nat)(p c:Nat):Sym→Nat→Nat→Prop
 | leaf:Spine g w p c ⟨true,c⟩ p 0
 | node {k:Nat} {r:Rule} {pre post:List Sym} {s:Sym} {ts:List Tree} {i m n:Nat}:g.rules[k]?=some r→r.right=pre++s::post→TreesOf g w pre ts i m→Spine g w p c s m n→Spine g w p c ⟨false,r.left⟩ i (n+(preL ts).length+1)
mutual
theorem TreeOf.spine{g:Gram}{w:List Nat}{p c:Nat}(hc:w[p]?=some c):∀{T:Tree} {X:Sym} {i j:Nat},TreeOf g w X T i j→i≤p→p<j→∃n,Spine g w p c X i n
 | .mk _ _ _,_,i,_,.leaf h,h1,h2=>by
  obtain rfl:i=p:=by omega
  rw[hc] at h;obtain rfl:=Option.some.inj h;exact⟨0,.leaf⟩
 | .mk _ _ ks,_,i,j,.node h h2,h3,h4=>by
  obtain⟨pre,s,post,ts,m,n,e1,e2,e3⟩:=TreesOf.spine hc h2 h3 h4;exact⟨_,.node h e1 e2 e3⟩
theorem TreesOf.spine{g:Gram}{w:List Nat}{p c:Nat}(hc:w[p]?=some c):∀{ts:List Tree} {l:List Sym} {i j:Nat},TreesOf g w l ts i j→i≤p→p<j→∃pre s post ts1 m n,l=pre++s::post∧TreesOf g w pre ts1 i m∧Spine g w p c s m n
 | [],_,i,_,.nil,h1,h2=>by omega
 | T::ts,_,i,j,.cons (s:=s) (l:=l) (m:=m) h1 h2,h3,h4=>by
  rcases Nat.lt_or_ge p m with h5 | h5
  ·obtain⟨n,hn⟩:=TreeOf.spine hc h1 h3 h5;exact⟨[],s,l,[],i,n,rfl,.nil,hn⟩
  ·obtain⟨pre,s',post,ts1,m',n,e1,e2,e3⟩:=TreesOf.spine hc h2 h5 h4;exact⟨s::pre,s',post,T::ts1,m',n,by rw[e1];rfl,.cons h1 e2,e3⟩
end
theorem BegL.app{g:Gram}{l m:List Sym}{t:Nat}(h:BegL g l t):BegL g (l++m) t:=by
 obtain⟨pre,s,post,e,h1,h2⟩:=h;exact⟨pre,s,post++m,by rw[e];simp,h1,h2⟩
theorem BegL.behind{g:Gram}:∀{l m:List Sym} {t:Nat},NulL g l→BegL g m t→BegL g (l++m) t
 | [],_,_,_,h=>h
 | s::l,m,t,hl,h=>BegL.cons (hl s me).1 (hl s me).2 (BegL.behind (fun x hx=>hl x (List.mem_cons_of_mem _ hx)) h)
theorem Spine.begin{g:Gram}{w:List Nat}{p c:Nat}(hc:w[p]?=some c){X:Sym}{i n:Nat}(h:Spine g w p c X i n):i≤p∧∃c',w[i]?=some c'∧(X=⟨true,c'⟩∨(X.term=false∧Beg g X.n c')):=by
 induction h with
 | leaf=>exact⟨Nat.le_refl _,c,hc,.inl rfl⟩
 | @node k r pre post s ts i m n hr he ht _ ih=>
  obtain⟨h1,c',h2,h3⟩:=ih;have hle:=(TreesOf.le ht).1;obtain⟨b1,b2⟩:=TreesOf.begin ht;have hm:=gM hr;refine⟨by omega,?_⟩;rcases Nat.lt_or_ge i m with h4 | h4
  ·obtain⟨c2,hc2,h5⟩:=b2 h4;exact⟨c2,hc2,.inr ⟨rfl,.of hm (by rw[he];exact h5.app)⟩⟩
  ·obtain rfl:i=m:=by omega
   exact⟨c',h2,.inr ⟨rfl,.of hm (by rw[he];exact BegL.behind (b1 rfl) (.head h3))⟩⟩
section
variable {g:Gram}{it:Nat→Lr→Prop}{la:Nat→Lr→Nat→Prop}{go:Nat→Sym→Option Nat}{act:Nat→Nat→Act}{w:List Nat}
theorem rest_some(hg:Valid g)(hP:∀n,n<g.nons→HasWord g n)(x:Lr):(∃t,BegL g (restL g x) t)∨NulL g (restL g x):=by
 obtain⟨v,hv⟩:=word_list hg hP x.rule (x.dot+1);obtain⟨ts,ht⟩:∃ts,TreesOf g v (restL g x) ts 0 v.length:=by
  have h:Ders g v (restL g x) 0 v.length:=hv;refine Ders.rec (motive_1:=fun s i j _=>∃T,TreeOf g v s T i j) (motive_2:=fun l i j _=>∃ts,TreesOf g v l ts i j) ?_ ?_ ?_ ?_ h
  ·intro t i h;exact⟨_,.leaf h⟩
  ·intro r i j hr _ ⟨ts,h2⟩;obtain⟨k,hk⟩:=List.getElem?_of_mem hr;exact⟨_,.node hk h2⟩
  ·intro i;exact⟨[],.nil⟩
  ·intro s l i m j _ _ ⟨T,h1⟩ ⟨ts,h2⟩;exact⟨_,.cons h1 h2⟩
 obtain⟨b1,b2⟩:=TreesOf.begin ht;rcases Nat.eq_zero_or_pos v.length with h | h
 ·exact .inr (b1 h.symm)
 ·obtain⟨c,_,h2⟩:=b2 h;exact .inl ⟨c,h2⟩
theorem la_some(hg:Valid g)(hP:∀n,n<g.nons→HasWord g n)(ok:LRok g it la go){s:Nat}{x:Lr}{k:Nat}{r:Rule}(hx:it s x)(hu:∃u,la s x u)(ha:afterL g x=some ⟨false,r.left⟩)(hr:g.rules[k]?=some r):∃u,la s ⟨k,0⟩ u:=by
 obtain⟨u,hu⟩:=hu;rcases rest_some hg hP x with ⟨t,h⟩ | h
 ·exact⟨t,ok.closL hx hu ha hr (.inl h)⟩
 ·exact⟨u,ok.closL hx hu ha hr (.inr ⟨h,hu⟩)⟩
theorem TreesOf.runPre(ok:LRok g it la go)(on:Only g it la go act)(hw:∀t∈w,t<g.terms){rest:List Sym}:∀{ts:List Tree} {l:List Sym} {i m:Nat},TreesOf g w l ts i m→∀{σ:List Nat} {τ:List Tree} {k d:Nat} {r:Rule},g.rules[k]?=some r→it (topS σ) ⟨k,d⟩→(∃u,la (topS σ) ⟨k,d⟩ u)→r.right.drop d=l++rest→BegL g rest (lookW g w m)→
  ∃σ' n,σ'.length=ts.length∧it (topS (σ++σ')) ⟨k,d+l.length⟩∧(∃u,la (topS (σ++σ')) ⟨k,d+l.length⟩ u)∧n≤(preL ts).length∧Run g go act w ((σ,τ),i) n ((σ++σ',τ++ts),m)
 | [],_,i,_,.nil,σ,τ,k,d,r,hk,hit,hla,hd,hb=>by
  refine⟨[],0,rfl,?_,?_,Nat.zero_le _,?_⟩
  ·rw[List.append_nil];exact hit
  ·rw[List.append_nil];exact hla
  ·rw[List.append_nil,List.append_nil];exact .refl
 | T::ts,s::l,i,j,.cons (m:=m) h1 h2,σ,τ,k,d,r,hk,hit,⟨u,hla⟩,hd,hb=>by
  have hd1:r.right[d]?=some s:=by rw[←List.head?_drop,hd];rfl
  have hd2:r.right.drop (d+1)=l++rest:=by rw[←List.tail_drop,hd];rfl
  have haf:afterL g ⟨k,d⟩=some s:=by rw[afterL_right];show (rightL g k)[d]?=_;rw[rightL_rule hk];exact hd1
  have hrest:restL g ⟨k,d⟩=l++rest:=by unfold restL;show (rightL g k).drop (d+1)=_;rw[rightL_rule hk];exact hd2
  obtain⟨b1,b2⟩:=TreesOf.begin h2;have hle:=(TreesOf.le h2).1;have hal:Allowed g la (topS σ) ⟨k,d⟩ (lookW g w m):=by
   unfold Allowed;rw[hrest];left;by_cases hm:m<j
   ·obtain⟨c,hc,h5⟩:=b2 hm;rw[lookW_at hc];exact h5.app
   ·obtain rfl:m=j:=by omega
    exact BegL.behind (b1 rfl) hb
  obtain⟨s',n1,e1,e2,e3⟩:=TreeOf.run ok on hw h1 hit ⟨_,hla⟩ haf hal;obtain⟨s2,f1,f2,f3⟩:=ok.step hit haf;rw[e1] at f1;obtain rfl:=Option.some.inj f1;obtain⟨σ',n2,g1,g2,g3,g4,g5⟩:=TreesOf.runPre ok on hw h2 (σ:=σ++[s']) (τ:=τ++[T]) (k:=k) (d:=d+1) (r:=r) hk (by rw[topS_snoc];exact f2) ⟨u,by rw[topS_snoc];exact f3 _ hla⟩ hd2 hb;have e:∀x:List Nat,σ++[s']++x=σ++(s'::x):=fun x=>by simp
  have e':∀x:List Tree,τ++[T]++x=τ++(T::x):=fun x=>by simp
  rw[e] at g2 g3 g5;rw[e'] at g5;have e6:d+1+l.length=d+(s::l).length:=by rw[List.length_cons];omega
  rw[e6] at g2 g3;refine⟨s'::σ',n1+n2,by rw[List.length_cons,g1];rfl,g2,g3,?_,e3.trans g5⟩;show _≤(T.pre++preL ts).length;rw[List.length_append];omega
theorem Spine.run(hg:Valid g)(hP:∀n,n<g.nons→HasWord g n)(ok:LRok g it la go)(on:Only g it la go act)(hw:∀t∈w,t<g.terms){p c:Nat}(hc:w[p]?=some c){X:Sym}{i n:Nat}(h:Spine g w p c X i n) :
  ∀{σ:List Nat} {τ:List Tree} {x:Lr},it (topS σ) x→(∃u,la (topS σ) x u)→afterL g x=some X→∃σ' τ' n' s',n'≤n∧Run g go act w ((σ,τ),i) n' ((σ',τ'),p)∧act (topS σ') c=.shift s':=by
 induction h with
 | leaf=>
  intro σ τ x hx hu ha;obtain⟨s',h1,h2,h3⟩:=ok.step hx ha;exact⟨σ,τ,0,s',Nat.le_refl _,.refl,on.all (.shift (hw c (gM hc)) h1)⟩
 | @node k r pre post s ts i m n hr he ht hs ih=>
  intro σ τ x hx hu ha;have hk0:=ok.clos hx ha hr;have hk1:=la_some hg hP ok hx hu ha hr;obtain⟨_,c',hc',hb⟩:=hs.begin hc;obtain⟨σ',n1,e1,e2,e3,e4,e5⟩:=TreesOf.runPre ok on hw ht (σ:=σ) (τ:=τ) (k:=k) (d:=0) (r:=r) (rest:=s::post) hr hk0 hk1 (by rw[List.drop_zero];exact he) (by rw[lookW_at hc'];exact .head hb);rw[Nat.zero_add] at e2 e3;have haf:afterL g ⟨k,pre.length⟩=some s:=by
   rw[afterL_right];show (rightL g k)[pre.length]?=_;rw[rightL_rule hr,he];simp
  obtain⟨σ2,τ2,n2,s',g1,g2,g3⟩:=ih (τ:=τ++ts) e2 e3 haf;exact⟨σ2,τ2,n1+n2,s',by omega,e5.trans g2,g3⟩
theorem Spine.conf(hg:Valid g)(hP:∀n,n<g.nons→HasWord g n)(ok:LRok g it la go)(on:Only g it la go act)(hw:∀t∈w,t<g.terms){p c:Nat}(hc:w[p]?=some c){n M:Nat}(h:Spine g w p c ⟨false,g.start⟩ 0 n)(hM:n≤M) :
  ∃c0,confAt g go act M (w.take (p+1)).reverse=some c0:=by
 have ha:afterL g ⟨g.rules.length,0⟩=some ⟨false,g.start⟩:=by rw[afterL_right];show (rightL g g.rules.length)[0]?=_;rw[rightL_start];rfl
 obtain⟨σ',τ',n',s',h1,h2,h3⟩:=h.run hg hP ok on hw hc (σ:=[0]) (τ:=[]) (x:=⟨g.rules.length,0⟩) ok.start ⟨_,ok.startL⟩ ha;have h4:=Run.shift (c:=(σ',τ')) h2 hc h3;obtain⟨c0,m,f1,_⟩:=h4.conf (M:=M) zo;exact⟨c0,f1⟩
end
theorem least_nat{P:Nat→Prop}:∀{n:Nat},P n→∃m,P m∧m≤n∧∀k,P k→m≤k:=by
 intro n
 induction n using Nat.strongRecOn with
 | _ n ih=>
  intro h;by_cases hc:∃m,m<n∧P m
  ·obtain⟨m,h1,h2⟩:=hc;obtain⟨k,h3,h4,h5⟩:=ih m h1 h2;exact⟨k,h3,by omega,h5⟩
  ·exact⟨n,h,Nat.le_refl _,fun k hk=>by
    rcases Nat.lt_or_ge k n with h6 | h6
    ·exact absurd ⟨k,h6,hk⟩ hc
    ·exact h6⟩
theorem min_small{g:Gram}{w:List Nat}(hg:Small g){s:Sym}{i j:Nat}{T:Tree}(h:Min g w s T i j):T.pre.length≤650*(j-i)+40:=by
 have hgv:=hg.valid;have hnon:∀{m a b:Nat} {T':Tree},Min g w ⟨false,m⟩ T' a b→m<g.nons:=fun {m a b T'} h=>by
  cases h.1 with
  | node h1 _=>exact(hgv.right _ (gM h1)).1
 have h3:∀r∈g.rules,r.right.length≤3:=fun r hr=>(hg.ok r hr).2.1;obtain⟨b,n⟩:=s;cases b with
 | true=>
  cases h.1 with
  | leaf _=>show 1≤_;omega
 | false=>
  have hn:=hnon h;have hlen:((List.range g.nons).erase n).length≤3:=by
   rw[List.length_erase_of_mem (List.mem_range.2 hn),List.length_range];have:=hg.nons.2;omega
  have hlow:∀m T2,Min g w ⟨false,m⟩ T2 i j→T2.pre.length<T.pre.length→m∈(List.range g.nons).erase n:=fun m T2 h2 h3=>mem_erase' (List.mem_range.2 (hnon h2)) fun e=>by
   subst e;have:=h.eq h2;omega
  have hle:=(TreeOf.le h.1).1;rcases Nat.eq_or_lt_of_le hle with e | e
  ·subst e;have:=emp_bound hgv h3 3 _ n i T hlen h hlow;have e40:eB 3=40:=rfl;omega
  ·have:=part_bound hgv hg.nons.2 h3 (j-i) 3 _ n i j T rfl e hlen h hlow;omega
theorem mts_small{g:Gram}{w:List Nat}(hg:Small g):∀{ts:List Tree} {l:List Sym} {i j:Nat},MTs g w l ts i j→(preL ts).length≤650*(j-i)+40*l.length
 | _,_,_,_,.nil=>Nat.zero_le _
 | t::ts,s::l,i,j,.cons (m:=m) h1 h2=>by
  have a1:=min_small hg h1;have a2:=mts_small hg h2;have b1:=(TreeOf.le h1.1).1;have b2:=(TreesOf.le h2.of).1;show (t.pre++preL ts).length≤_;rw[List.length_append,List.length_cons];omega
def MinS(g:Gram)(w:List Nat)(p c:Nat)(s:Sym)(i n:Nat):Prop:=Spine g w p c s i n∧∀n',Spine g w p c s i n'→n≤n'
theorem spine_bound{g:Gram}{w:List Nat}(hg:Small g){p c:Nat}(hc:w[p]?=some c):∀(len k:Nat) (U:List Nat) (a i n:Nat),p-i=len→U.length≤k→MinS g w p c ⟨false,a⟩ i n→(∀m n',MinS g w p c ⟨false,m⟩ i n'→n'<n→m∈U)→n≤974*len+81*(k+1):=by
 have hgv:=hg.valid;have h3:∀r∈g.rules,r.right.length≤3:=fun r hr=>(hg.ok r hr).2.1;have hnon:∀{m i n:Nat},MinS g w p c ⟨false,m⟩ i n→m<g.nons:=fun {m i n} h=>by
  generalize hs:(⟨false,m⟩:Sym)=s at h;cases h.1 with
  | leaf=>cases hs
  | node h1 _ _ _=>
   cases hs;exact(hgv.right _ (gM h1)).1
 have heq:∀{s:Sym} {i n n':Nat},MinS g w p c s i n→MinS g w p c s i n'→n=n':=fun h h'=>Nat.le_antisymm (h.2 _ h'.1) (h'.2 _ h.1);have hsplit:∀{a i n:Nat},MinS g w p c ⟨false,a⟩ i n→∃(s:Sym) (m n1:Nat),MinS g w p c s m n1∧i≤m∧m≤p∧n1<n∧n≤n1+650*(m-i)+81:=fun {a i n} h=>by
  obtain⟨h1,h2⟩:=h;generalize hs:(⟨false,a⟩:Sym)=s at h1 h2;cases h1 with
  | leaf=>cases hs
  | @node k r pre post s ts _ m n1 hr he ht hsp=>
   obtain⟨n2,q1,q2,q3⟩:=least_nat (P:=fun n=>Spine g w p c s m n) hsp;obtain⟨ts',t1,t2⟩:=TreesOf.toMin ht;have hle:=(TreesOf.le ht).1;have h4:=h2 _ (.node hr he t1.of q1);have h5:=mts_small hg t1;have h6:=h3 r (gM hr);rw[he,List.length_append,List.length_cons] at h6;refine⟨s,m,n2,⟨q1,q3⟩,hle,(q1.begin hc).1,by omega,by omega⟩
 have hrange:∀{a i n:Nat},MinS g w p c ⟨false,a⟩ i n→((List.range g.nons).erase a).length≤3∧∀m n',MinS g w p c ⟨false,m⟩ i n'→n'<n→m∈(List.range g.nons).erase a:=fun {a i n} h=>by
  refine⟨?_,fun m n' h1 h2=>mem_erase' (List.mem_range.2 (hnon h1)) fun e=>?_⟩
  ·rw[List.length_erase_of_mem (List.mem_range.2 (hnon h)),List.length_range];have:=hg.nons.2;omega
  ·subst e;have:=heq h h1;omega
 intro len
 induction len using Nat.strongRecOn with
 | _ len ihl=>
  intro k
  induction k with
  | zero=>
   intro U a i n hlen hU hT hlow;obtain⟨s,m,n1,e1,e2,e3,e4,e5⟩:=hsplit hT;obtain⟨b,q⟩:=s;cases b with
   | true=>
    have:n1=0:=by
     generalize hs:(⟨true,q⟩:Sym)=s at e1;cases e1.1 with
     | leaf=>rfl
     | node _ _ _ _=>cases hs
    have:650*(m-i)≤974*len:=by omega
    omega
   | false=>
    rcases Nat.eq_or_lt_of_le e2 with e | e
    ·subst e;have:=hlow q n1 e1 e4;have hUn:U=[]:=List.eq_nil_of_length_eq_zero zo;rw[hUn] at this;cases this
    ·obtain⟨g1,g2⟩:=hrange e1;have:=ihl (p-m) zo 3 _ q m n1 rfl g1 e1 g2;omega
  | succ k ih=>
   intro U a i n hlen hU hT hlow;obtain⟨s,m,n1,e1,e2,e3,e4,e5⟩:=hsplit hT;obtain⟨b,q⟩:=s;cases b with
   | true=>
    have:n1=0:=by
     generalize hs:(⟨true,q⟩:Sym)=s at e1;cases e1.1 with
     | leaf=>rfl
     | node _ _ _ _=>cases hs
    have:650*(m-i)≤974*len:=by omega
    omega
   | false=>
    rcases Nat.eq_or_lt_of_le e2 with e | e
    ·subst e;have hin:=hlow q n1 e1 e4;have:=ih (U.erase q) q i n1 hlen (by rw[List.length_erase_of_mem hin];omega) e1 fun m' n2 h1 h2=>by
      refine mem_erase' (hlow m' n2 h1 zo) fun e=>?_;subst e;have:=heq e1 h1;omega
     omega
    ·obtain⟨g1,g2⟩:=hrange e1;have:=ihl (p-m) zo 3 _ q m n1 rfl g1 e1 g2;omega
theorem conf_reads{g:Gram}{it:Nat→Lr→Prop}{la:Nat→Lr→Nat→Prop}{go:Nat→Sym→Option Nat}{act:Nat→Nat→Act}{w:List Nat}(hg:Small g)(hP:∀n,n<g.nons→HasWord g n)(ok:LRok g it la go)(on:Only g it la go act)(hw:∀t∈w,t<g.terms)
  (h:Der g w ⟨false,g.start⟩ 0 w.length) {p:Nat} (hp:p<w.length) (hp2:p≤90):∃c0,confAt g go act 100000 (w.take (p+1)).reverse=some c0:=by
 obtain⟨T,hT⟩:=Der.tree h;have hc:=gE hp;generalize w[p]=c at hc;obtain⟨n,hn⟩:=TreeOf.spine hc hT (Nat.zero_le _) hp;obtain⟨m,h1,h2,h3⟩:=least_nat (P:=fun n=>Spine g w p c ⟨false,g.start⟩ 0 n) hn;have hb:=spine_bound hg hc p g.nons (List.range g.nons) g.start 0 m zo (by rw[List.length_range];exact Nat.le_refl _) ⟨h1,h3⟩ fun q n' hq _=>by
  have hq:=hq.1;generalize hs:(⟨false,q⟩:Sym)=s at hq;cases hq with
  | leaf=>cases hs
  | node h1 _ _ _=>
   cases hs;exact List.mem_range.2 (hg.valid.right _ (gM h1)).1
 have hn4:=hg.nons.2;exact h1.conf hg.valid hP ok on hw hc (M:=100000) zo
def fromL(g:Gram)(x:Lr):List Sym:=(rightL g x.rule).drop x.dot
def Nx(g:Gram)(l:List Sym)(u c:Nat):Prop:=BegL g l c∨(NulL g l∧c=u)
inductive IWay(g:Gram):Lr→Nat→List Sym→Lr→Nat→Prop
 | stay {x:Lr} {u:Nat}:IWay g x u [] x u
 | go {x y:Lr} {u v:Nat} {X:Sym} {γ:List Sym}:afterL g x=some X→IWay g ⟨x.rule,x.dot+1⟩ u γ y v→IWay g x u (X::γ) y v
 | pre {x y:Lr} {u u' v k:Nat} {r:Rule} {γ:List Sym}:afterL g x=some ⟨false,r.left⟩→g.rules[k]?=some r→Nx g (restL g x) u u'→IWay g ⟨k,0⟩ u' γ y v→IWay g x u γ y v
theorem IWay.shift{g:Gram}{x y:Lr}{u v:Nat}{X:Sym}{γ:List Sym}(h:IWay g x u γ y v)(ha:afterL g y=some X):IWay g x u (γ++[X]) ⟨y.rule,y.dot+1⟩ v:=by
 induction h with
 | stay=>exact .go ha .stay
 | go h _ ih=>exact .go h (ih ha)
 | pre h1 h2 h3 _ ih=>exact .pre h1 h2 h3 (ih ha)
theorem IWay.close{g:Gram}{x y:Lr}{u v v' k:Nat}{r:Rule}{γ:List Sym}(h:IWay g x u γ y v)(ha:afterL g y=some ⟨false,r.left⟩)(hr:g.rules[k]?=some r)(hn:Nx g (restL g y) v v'):IWay g x u γ ⟨k,0⟩ v':=by
 induction h with
 | stay=>exact .pre ha hr hn .stay
 | go h _ ih=>exact .go h (ih ha hn)
 | pre h1 h2 h3 _ ih=>exact .pre h1 h2 h3 (ih ha hn)
structure IWayI(g:Gram)(x:Lr)(u:Nat):Prop where
 fol:FolA g x u
 rch:x.rule<g.rules.length→Rch g (leftL g x.rule)
theorem IWayI.start{g:Gram}:IWayI g ⟨g.rules.length,0⟩ g.terms:=⟨by unfold FolA;rw[if_neg (Nat.lt_irrefl _)],fun h=>absurd h (Nat.lt_irrefl _)⟩
theorem IWayI.go{g:Gram}{x:Lr}{u:Nat}(h:IWayI g x u):IWayI g ⟨x.rule,x.dot+1⟩ u:=⟨h.fol,h.rch⟩
theorem IWayI.pre{g:Gram}{x:Lr}{u u' k:Nat}{r:Rule}(h:IWayI g x u)(ha:afterL g x=some ⟨false,r.left⟩)(hr:g.rules[k]?=some r)(hn:Nx g (restL g x) u u'):IWayI g ⟨k,0⟩ u':=by
 have hk:=(gS hr).1;obtain⟨xr,xd⟩:=x;by_cases hxr:xr<g.rules.length
 ·have hr2:=gE hxr;generalize g.rules[xr]=r2 at hr2;have hm2:=gM hr2;have hre:Rch g (leftL g xr):=h.rch hxr;rw[leftL_at hr2] at hre;have hsp:=split_at hr2 ha;refine⟨?_,fun _=>?_⟩
  ·unfold FolA;rw[if_pos hk,leftL_at hr];rcases hn with hb | ⟨hb1,e⟩
   ·exact .beg hm2 hre hsp hb
   ·have h5:=h.fol;unfold FolA at h5;rw[if_pos hxr] at h5;have h5:Fol g (leftL g xr) u:=h5;rw[leftL_at hr2,←e] at h5;exact .pass hm2 hre hsp hb1 h5
  ·show Rch g (leftL g k);rw[leftL_at hr];exact .more hm2 hre (by rw[hsp];simp)
 ·have hxe:xr=g.rules.length:=by
   have h2:(rightL g xr)[xd]?=some ⟨false,r.left⟩:=(afterL_right (g:=g) (x:=⟨xr,xd⟩)).symm.trans ha;rcases Nat.lt_or_ge g.rules.length xr with h3 | h3
   ·unfold rightL at h2;rw[if_neg zo,List.getElem?_eq_none (l:=g.rules) (i:=xr) zo] at h2;simp at h2
   ·omega
  subst hxe;obtain⟨h1,_,h3⟩:=rest_start ha;simp only[Sym.mk.injEq,true_and] at h1;refine⟨?_,fun _=>?_⟩
  ·unfold FolA;rw[if_pos hk,leftL_at hr,h1];rcases hn with hb | ⟨_,e⟩
   ·rw[h3] at hb;obtain⟨pre,s1,post,e,_⟩:=hb;exact absurd (congrArg List.length e) (by simp)
   ·have h5:=h.fol;unfold FolA at h5;rw[if_neg (Nat.lt_irrefl _)] at h5;rw[e,h5];exact .start
  ·show Rch g (leftL g k);rw[leftL_at hr,h1];exact .start
theorem IWayI.can{g:Gram}{k u c:Nat}{r:Rule}(h:IWayI g ⟨k,0⟩ u)(hr:g.rules[k]?=some r)(hn:Nx g r.right u c):Can g r c:=by
 have hk:=(gS hr).1;rcases hn with hb | ⟨hb,e⟩
 ·exact .inl hb
 ·have h5:=h.fol;unfold FolA at h5;rw[if_pos hk] at h5;have h5:Fol g (leftL g k) u:=h5;rw[leftL_at hr,←e] at h5;exact .inr ⟨hb,h5⟩
def Ready(g:Gram)(y:Lr)(v t:Nat):Prop:=(afterL g y=none∧t=v)∨afterL g y=some ⟨true,t⟩
theorem fromL_some{g:Gram}{x:Lr}{X:Sym}(h:afterL g x=some X):fromL g x=X::restL g x:=by
 rw[afterL_right] at h;exact drop_at h
theorem fromL_none{g:Gram}{x:Lr}(h:afterL g x=none):fromL g x=[]:=by
 rw[afterL_right,List.getElem?_eq_none_iff] at h;exact List.drop_eq_nil_of_le h
theorem fromL_rule{g:Gram}{k:Nat}{r:Rule}(h:g.rules[k]?=some r):fromL g ⟨k,0⟩=r.right:=by
 unfold fromL;rw[rightL_rule h];rfl
section
variable {g:Gram}{tab:Nat→Nat→Option Nat}{w:List Nat}{p t:Nat}
theorem IWay.next(ht:nextW g w p=t){x y:Lr}{u v:Nat}{γ:List Sym}(h:IWay g x u γ y v)(hy:Ready g y v t):∀{i:Nat} {ts:List Tree},TreesOf g w γ ts i p→Nx g (fromL g x) u (nextW g w i):=by
 induction h with
 | stay=>
  intro i ts hts;cases hts;rw[ht];rcases hy with ⟨h1,h2⟩ | h1
  ·rw[fromL_none h1];exact .inr ⟨NulL.nil,h2⟩
  ·rw[fromL_some h1];exact .inl (.head (.inl rfl))
 | go ha _ ih=>
  intro i ts hts;rw[fromL_some ha];cases hts with
  | cons h1 h2=>
   have h3:=ih hy h2;have hle:=(TreeOf.le h1).1;obtain⟨b1,b2⟩:=TreeOf.begin h1;rcases Nat.lt_or_eq_of_le hle with h4 | h4
   ·obtain⟨c,hc,h5⟩:=b2 h4;rw[nextW_at hc];exact .inl (.head h5)
   ·obtain⟨h5,h6⟩:=b1 h4;rw[h4];rcases h3 with h3 | ⟨h3,e⟩
    ·exact .inl (BegL.cons h5 h6 h3)
    ·exact .inr ⟨NulL.cons h5 h6 h3,e⟩
 | pre ha hk hn _ ih=>
  intro i ts hts;have h3:=ih hy hts;have hm:=gM hk;rw[fromL_rule hk] at h3;rw[fromL_some ha];rcases h3 with h3 | ⟨h3,e⟩
  ·exact .inl (.head (.inr ⟨rfl,.of hm h3⟩))
  ·rw[e];rcases hn with hn | ⟨hn,e2⟩
   ·exact .inl (BegL.cons rfl (.of hm h3) hn)
   ·exact .inr ⟨NulL.cons rfl (.of hm h3) hn,e2⟩
def NLft(g:Gram)(B:Nat)(γ:List Sym)(y:Lr)(v:Nat)(s:Sym):Prop:=∃(k:Nat) (r:Rule) (u:Nat),s=⟨false,r.left⟩∧g.rules[k]?=some r∧IWayI g ⟨k,0⟩ u∧IWay g ⟨k,0⟩ u (⟨false,B⟩::γ) y v
theorem nl_next{B:Nat}{γ:List Sym}{y:Lr}{v:Nat}(hB:NLft g B γ y v ⟨false,B⟩){k u:Nat}{r:Rule}(hr:g.rules[k]?=some r)(hI:IWayI g ⟨k,0⟩ u)(h:IWay g ⟨k,0⟩ u (⟨false,B⟩::γ) y v):∃X rest,r.right=X::rest∧NLft g B γ y v X:=by
 cases h with
 | go ha _=>exact⟨_,_,by rw[←fromL_rule hr];exact fromL_some ha,hB⟩
 | pre ha hk hn h2=>exact⟨_,_,by rw[←fromL_rule hr];exact fromL_some ha,_,_,_,rfl,hk,hI.pre ha hk hn,h2⟩
theorem nl_rule(ok:LLok g tab)(ht:nextW g w p=t){B i:Nat}{γ:List Sym}{y:Lr}{v:Nat}{ts:List Tree}(hy:Ready g y v t)(hts:TreesOf g w (⟨false,B⟩::γ) ts i p){k u:Nat}{r:Rule}(hr:g.rules[k]?=some r)(hI:IWayI g ⟨k,0⟩ u)(h:IWay g ⟨k,0⟩ u (⟨false,B⟩::γ) y v):tab r.left (nextW g w i)=some k:=by
 have h1:=h.next ht hy hts
 rw[fromL_rule hr] at h1;exact ok.only hr (hI.can hr h1)
mutual
theorem no_left(ok:LLok g tab)(ht:nextW g w p=t){B i:Nat}{γ:List Sym}{y:Lr}{v:Nat}{ts0:List Tree}(hy:Ready g y v t)(hts:TreesOf g w (⟨false,B⟩::γ) ts0 i p)(hB:NLft g B γ y v ⟨false,B⟩) :
  ∀{s:Sym} {q j:Nat} {o:Option Tree},PR g tab w s q o j→q=i→NLft g B γ y v s→False
 | _,_,_,_,.leaf _,_,⟨_,_,_,e,_⟩=>by cases e
 | _,_,_,_,.other _,_,⟨_,_,_,e,_⟩=>by cases e
 | _,_,_,_,.none h,hq,⟨k,r,u,e,hr,hI,hrun⟩=>by
  have h':=h;have hn:_=r.left:=congrArg Sym.n e;dsimp only at hn;rw[hq,hn,nl_rule ok ht hy hts hr hI hrun] at h';cases h'
 | _,_,_,_,.node h hr' h2,hq,⟨k,r,u,e,hr,hI,hrun⟩=>by
  obtain⟨X,rest,e2,h3⟩:=nl_next hB hr hI hrun;have h':=h;have hn:_=r.left:=congrArg Sym.n e;dsimp only at hn;rw[hq,hn,nl_rule ok ht hy hts hr hI hrun] at h';rw[Option.some.inj h'] at hr;exact no_leftL ok ht hy hts hB h2 hq ((congrArg Rule.right (Option.some.inj (hr'.symm.trans hr))).trans e2) h3
 | _,_,_,_,.bad h hr' h2,hq,⟨k,r,u,e,hr,hI,hrun⟩=>by
  obtain⟨X,rest,e2,h3⟩:=nl_next hB hr hI hrun;have h':=h;have hn:_=r.left:=congrArg Sym.n e;dsimp only at hn;rw[hq,hn,nl_rule ok ht hy hts hr hI hrun] at h';rw[Option.some.inj h'] at hr;exact no_leftL ok ht hy hts hB h2 hq ((congrArg Rule.right (Option.some.inj (hr'.symm.trans hr))).trans e2) h3
theorem no_leftL(ok:LLok g tab)(ht:nextW g w p=t){B i:Nat}{γ:List Sym}{y:Lr}{v:Nat}{ts0:List Tree}(hy:Ready g y v t)(hts:TreesOf g w (⟨false,B⟩::γ) ts0 i p)(hB:NLft g B γ y v ⟨false,B⟩) :
  ∀{l:List Sym} {q j:Nat} {o:Option (List Tree)},PRL g tab w l q o j→q=i→∀{X:Sym} {rest:List Sym},l=X::rest→NLft g B γ y v X→False
 | _,_,_,_,.nil,_,_,_,e,_=>by cases e
 | _,_,_,_,.cons h _,hq,_,_,e,hX=>no_left ok ht hy hts hB h hq ((List.cons.inj e).1▸hX)
 | _,_,_,_,.stop h,hq,_,_,e,hX=>no_left ok ht hy hts hB h hq ((List.cons.inj e).1▸hX)
 | _,_,_,_,.later h _,hq,_,_,e,hX=>no_left ok ht hy hts hB h hq ((List.cons.inj e).1▸hX)
end
theorem ready_not{y:Lr}{v n:Nat}(h:Ready g y v t)(ha:afterL g y=some ⟨false,n⟩):False:=by
 rcases h with ⟨h,_⟩ | h
 ·rw[ha] at h;cases h
 ·rw[ha] at h;cases h
theorem IWay.uniq(hg:Valid g)(ok:LLok g tab)(hp:p≤w.length)(ht:nextW g w p=t){x y:Lr}{u v:Nat}{γ:List Sym}(h:IWay g x u γ y v)(hy:Ready g y v t):∀{u2 v2 i:Nat} {y2:Lr} {ts:List Tree},IWay g x u2 γ y2 v2→Ready g y2 v2 t→IWayI g x u→IWayI g x u2→TreesOf g w γ ts i p→y=y2:=by
 have left:∀{i B v:Nat} {γ:List Sym} {y:Lr} {ts:List Tree},TreesOf g w (⟨false,B⟩::γ) ts i p→Ready g y v t→NLft g B γ y v ⟨false,B⟩→False:=fun {i B v γ y ts} hts hy hB=>by
  obtain⟨k,r,u,e,hr,hI,_⟩:=id hB;have hi:=(TreesOf.le hts).1;have hR:Rch g B:=by
   have h1:Rch g (leftL g k):=hI.rch (gS hr).1;rw[leftL_at hr] at h1;cases e;exact h1
  obtain⟨o,j,hpr⟩:=pr_total (w:=w) hg ok _ i rfl zo ⟨false,B⟩ fun _=>hR;exact no_left ok ht hy hts hB hpr rfl hB
 induction h with
 | stay=>
  intro u2 v2 i y2 ts h2 hy2 hI hI2 hts;cases h2 with
  | stay=>rfl
  | pre ha _ _ _=>exact(ready_not hy ha).elim
 | go ha h ih=>
  intro u2 v2 i y2 ts h2 hy2 hI hI2 hts;cases h2 with
  | go ha2 h2=>
   cases hts with
   | cons h3 h4=>exact ih hy h2 hy2 hI.go hI2.go h4
  | pre ha2 hk2 hn2 h2=>
   rw[ha] at ha2;obtain rfl:=Option.some.inj ha2;exact(left hts hy2 ⟨_,_,_,rfl,hk2,hI2.pre ha hk2 hn2,h2⟩).elim
 | pre ha hk hn h ih=>
  intro u2 v2 i y2 ts h2 hy2 hI hI2 hts;cases h2 with
  | stay=>exact(ready_not hy2 ha).elim
  | go ha2 h2=>
   rw[ha] at ha2;obtain rfl:=Option.some.inj ha2;exact(left hts hy ⟨_,_,_,rfl,hk,hI.pre ha hk hn,h⟩).elim
  | pre ha2 hk2 hn2 h2=>
   have e:(⟨false,_⟩:Sym)=⟨false,_⟩:=Option.some.inj (ha.symm.trans ha2);simp only[Sym.mk.injEq,true_and] at e;have n1:=h.next ht hy hts
   have n2:=h2.next ht hy2 hts
   rw[fromL_rule hk] at n1;rw[fromL_rule hk2] at n2;have c1:=ok.only hk ((hI.pre ha hk hn).can hk n1);have c2:=ok.only hk2 ((hI2.pre ha2 hk2 hn2).can hk2 n2);rw[e] at c1;rw[c1] at c2;obtain rfl:=Option.some.inj c2;exact ih hy h2 hy2 (hI.pre ha hk hn) (hI2.pre ha2 hk2 hn2) hts
end
theorem filterMap_one{α β κ:Type}{f:α→Option β}{key:α→κ}:∀{l:List α},(l.map key).Nodup→(∀a∈l,∀b∈l,(f a).isSome=true→(f b).isSome=true→key a=key b)→(l.filterMap f).length≤1
 | [],_,_=>by simp
 | a::l,hn,h=>by
  rw[List.map_cons,List.nodup_cons] at hn;have ih:=filterMap_one hn.2 (fun x hx y hy=>h x (List.mem_cons_of_mem _ hx) y (List.mem_cons_of_mem _ hy));rw[List.filterMap_cons];cases ha:f a with
  | none=>exact ih
  | some z=>
   have h0:l.filterMap f=[]:=by
    rw[List.filterMap_eq_nil_iff];intro b hb;cases hfb:f b with
    | none=>rfl
    | some q=>exact absurd (List.mem_map.2 ⟨b,hb,(h a me b (List.mem_cons_of_mem _ hb) (by rw[ha];rfl) (by rw[hfb];rfl)).symm⟩) hn.1
   dsimp only;rw[h0];exact Nat.le_refl _
theorem Ders.trees{g:Gram}{w:List Nat}{l:List Sym}{i j:Nat}(h:Ders g w l i j):∃ts,TreesOf g w l ts i j:=by
 refine Ders.rec (motive_1:=fun s i j _=>∃T,TreeOf g w s T i j) (motive_2:=fun l i j _=>∃ts,TreesOf g w l ts i j) ?_ ?_ ?_ ?_ h
 ·intro t i h;exact⟨_,.leaf h⟩
 ·intro r i j hr _ ⟨ts,h2⟩;obtain⟨k,hk⟩:=List.getElem?_of_mem hr;exact⟨_,.node hk h2⟩
 ·intro i;exact⟨[],.nil⟩
 ·intro s l i m j _ _ ⟨T,h1⟩ ⟨ts,h2⟩;exact⟨_,.cons h1 h2⟩
structure StV(g:Gram)(st:List Look)(γ:List Sym):Prop where
 syms:∀X∈γ,SymOk g.terms g.nons X
 form:∃l,st=closeK g l
 some_:∀x∈itemsK st,∃u,IWay g ⟨g.rules.length,0⟩ g.terms γ x u
 look:∀x m t,⟨x,m⟩∈st→m.testBit t=true→IWay g ⟨g.rules.length,0⟩ g.terms γ x t
section
variable {g:Gram}{tab:Nat→Nat→Option Nat}{S:List (List Look)}{rows:List (List Int)}
theorem closeK_val(hg:Valid g)(hP:∀n,n<g.nons→HasWord g n){l:List Look}{γ:List Sym}(hs:∀X∈γ,SymOk g.terms g.nons X)(hl:∀x∈itemsK l,OkLr g x)(h1:∀x∈itemsK l,∃u,IWay g ⟨g.rules.length,0⟩ g.terms γ x u)
  (h2:∀x m t,⟨x,m⟩∈l→m.testBit t=true→IWay g ⟨g.rules.length,0⟩ g.terms γ x t):StV g (closeK g l) γ:=by
 have hc:∀x,Clos g (itemsK l) x→∃u,IWay g ⟨g.rules.length,0⟩ g.terms γ x u:=fun x hx=>by
  induction hx with
  | base h=>exact h1 _ h
  | more _ ha hr e ih=>
   obtain⟨u,hu⟩:=ih;subst e;rcases rest_some hg hP _ with ⟨t,ht⟩ | hn
   ·exact⟨_,hu.close ha hr (.inl ht)⟩
   ·exact⟨_,hu.close ha hr (.inr ⟨hn,rfl⟩)⟩
 have hlc:∀z t,LAc g l z t→IWay g ⟨g.rules.length,0⟩ g.terms γ z t:=fun z t h=>by
  induction h with
  | base hm ht _=>exact h2 _ _ _ hm ht
  | beg hx ha hr hb=>
   obtain⟨u,hu⟩:=hc _ hx;exact hu.close ha hr (.inl hb)
  | pass hx ha hr hn _ ih=>exact ih.close ha hr (.inr ⟨hn,rfl⟩)
 exact⟨hs,⟨l,rfl⟩,fun x hx=>hc x (by rw[closeK_items,mem_closL hl] at hx;exact hx),fun x m t hm ht=>hlc x t ((look_closeK hg hl).1 ⟨m,hm,ht⟩)⟩
theorem autoK_val(hg:Valid g)(hP:∀n,n<g.nons→HasWord g n)(h:autoK g=some (S,rows)):∀(s:Nat) (st:List Look),S[s]?=some st→∃γ,StV g st γ:=by
 obtain⟨hA,hN⟩:=autoK_ok h;refine hN.all (P:=fun st=>∃γ,StV g st γ) ⟨[],closeK_val hg hP (fun X hX=>by cases hX) start_ok ?_ ?_⟩ ?_
 ·intro x hx;rw[List.mem_singleton.1 hx];exact⟨_,.stay⟩
 ·intro x m t hm ht;have e:=List.mem_singleton.1 hm;simp only[Look.mk.injEq] at e;obtain⟨rfl,rfl⟩:=e;rw[Nat.testBit_two_pow,decide_eq_true_eq] at ht;rw[←ht];exact .stay
 ·rintro st s ⟨γ,hst⟩ hs;obtain⟨y,_,hy⟩:=List.mem_map.1 hs;split at hy
  ·cases hy
  ·rename_i hne;obtain rfl:=Option.some.inj hy;refine⟨γ++[y],closeK_val hg hP ?_ (fun x hx=>by rw[kernK_items] at hx;exact(kern_ok x hx).1) ?_ ?_⟩
   ·intro X hX;rcases List.mem_append.1 hX with hX | hX
    ·exact hst.syms X hX
    ·rw[List.mem_singleton.1 hX];obtain⟨⟨z,m⟩,hz⟩:=List.exists_mem_of_ne_nil _ hne;obtain⟨x,_,ha,_⟩:=mem_kernK.1 hz;exact afterL_sym hg ha
   ·intro x hx;rw[kernK_items] at hx;obtain⟨x0,h0,ha,rfl⟩:=mem_kern.1 hx;obtain⟨u,hu⟩:=hst.some_ x0 h0;exact⟨u,hu.shift ha⟩
   ·intro x m t hm ht;obtain⟨x0,h0,ha,rfl⟩:=mem_kernK.1 hm;exact(hst.look x0 m t h0 ht).shift ha
theorem ll_acts(hg:Valid g)(hP:∀n,n<g.nons→HasWord g n)(ok:LLok g tab)(h:autoK g=some (S,rows)){s t:Nat}(hs:s<S.length)(ht:t≤g.terms):(actsF g (S.getD s []) (rows.getD s []) t).length≤1:=by
 obtain⟨hA,hN⟩:=autoK_ok h;have hS:=gE hs;generalize S[s]=st at hS;obtain⟨γ,hv⟩:=autoK_val hg hP h s st hS;have hSI:(S.map itemsK)[s]?=some (itemsK st):=map_at hS;obtain⟨row,hrow⟩:=hA.rowAt hSI;rw[getD_some hS,getD_some hrow]
 obtain⟨z,hz⟩:=hasWord_list γ (fun y hy=>by
  have:=hv.syms y hy;obtain⟨b,n⟩:=y;cases b with
  | true=>exact .inl rfl
  | false=>exact .inr (hP n this))
 obtain⟨w,hw1,hw2,ts,hts⟩:∃w:List Nat,z.length≤w.length∧nextW g w z.length=t∧∃ts,TreesOf g w γ ts 0 z.length:=by
  rcases Nat.lt_or_eq_of_le ht with h1 | h1
  ·have h2:=ders_wrap (u:=[]) (v:=[t]) hz;simp only[List.nil_append,List.length_nil,Nat.zero_add] at h2;exact⟨z++[t],by simp,nextW_at (by simp),h2.trees⟩
  ·exact⟨z,Nat.le_refl _,by rw[nextW_end,h1],hz.trees⟩
 have uq:∀{x y:Lr} {u v:Nat},IWay g ⟨g.rules.length,0⟩ g.terms γ x u→IWay g ⟨g.rules.length,0⟩ g.terms γ y v→Ready g x u t→Ready g y v t→x=y:=fun h1 h2 r1 r2=>h1.uniq hg ok hw1 hw2 r1 h2 r2 .start .start hts;have hnd:(st.map (·.item)).Nodup:=by
  obtain⟨l,rfl⟩:=hv.form;show (itemsK (closeK g l)).Nodup;rw[closeK_items];exact(closL_strict g (itemsK l)).imp fun {x y} h e=>by
   subst e;unfold ltLr at h;simp at h
 have hred:∀a∈st,afterL g a.item=none→a.set.testBit t=true→IWay g ⟨g.rules.length,0⟩ g.terms γ a.item t∧Ready g a.item t t:=fun a ha h1 h2=>⟨hv.look _ _ _ ha h2,.inl ⟨h1,rfl⟩⟩;unfold actsF;rw[List.length_append];generalize hpre:(if t<g.terms then (match row[t]? with | some j=>if 0≤j then [(1,j.toNat)] else [] | none=>[]) else [])=pre
 have hp:pre=[]∨(pre.length=1∧∃x u,IWay g ⟨g.rules.length,0⟩ g.terms γ x u∧afterL g x=some ⟨true,t⟩):=by
  rw[←hpre];split
  ·rename_i htt;cases hx:row[t]? with
   | none=>exact .inl rfl
   | some j=>
    dsimp only;split
    ·rename_i hj;refine .inr ⟨rfl,?_⟩;have hk:kern g (itemsK st) ⟨true,t⟩≠[]:=fun e=>by
      have h1:=hA.no s _ _ row ⟨true,t⟩ hSI hrow (symsL_at (show SymOk g.terms g.nons ⟨true,t⟩ from htt)) e;rw[show idxS g ⟨true,t⟩=t from rfl,hx] at h1;have:=Option.some.inj h1;omega
     obtain⟨x,hx⟩:=List.exists_mem_of_ne_nil _ hk;obtain⟨x0,h0,ha,_⟩:=mem_kern.1 hx;obtain⟨u,hu⟩:=hv.some_ x0 h0;exact⟨x0,u,hu,ha⟩
    ·exact .inl rfl
  ·exact .inl rfl
 rcases hp with rfl | ⟨hp1,x,u,hx,ha⟩
 ·refine Nat.le_trans (Nat.le_of_eq (Nat.zero_add _)) (filterMap_one hnd fun a ha b hb h1 h2=>?_);have g1:afterL g a.item=none∧a.set.testBit t=true:=by
   split at h1
   ·assumption
   ·cases h1
  have g2:afterL g b.item=none∧b.set.testBit t=true:=by
   split at h2
   ·assumption
   ·cases h2
  obtain⟨r1,r2⟩:=hred a ha g1.1 g1.2;obtain⟨r3,r4⟩:=hred b hb g2.1 g2.2;exact uq r1 r3 r2 r4
 ·have h0:(st.filterMap fun lk=>if afterL g lk.item=none∧lk.set.testBit t=true then some (if lk.item.rule<g.rules.length then (2,lk.item.rule) else (3,0)) else none)=[]:=by
   rw[List.filterMap_eq_nil_iff];intro a hm;rw[if_neg];rintro⟨g1,g2⟩;obtain⟨r1,r2⟩:=hred a hm g1 g2;have e:=uq r1 hx r2 (.inr ha);rw[e,ha] at g1;cases g1
  rw[h0,hp1];exact Nat.le_refl _
theorem ll_table(hg:Valid g)(hP:∀n,n<g.nons→HasWord g n)(ok:LLok g tab){T:Tab}(hT:tableF g 3=some T):T.conf=[]:=by
 unfold tableF statesF at hT;rw[if_pos rfl] at hT;cases hA:autoK g with
 | none=>rw[hA] at hT;cases hT
 | some a=>
  obtain⟨S,rows⟩:=a;rw[hA] at hT;obtain rfl:=Option.some.inj hT;unfold tabF;dsimp only;rw[List.flatten_eq_nil_iff];intro r hr;obtain⟨s,hs,rfl⟩:=List.mem_map.1 hr;have hs:=List.mem_range.1 hs;have hal:(allF g S rows).length=S.length:=by unfold allF;simp
  rw[hal] at hs;have hrw:(allF g S rows).getD s []=(List.range (g.terms+1)).map fun t=>actsF g (S.getD s []) (rows.getD s []) t:=getD_some (map_at (List.getElem?_range hs));rw[hrw];unfold confRow;rw[List.filterMap_eq_nil_iff];intro t ht;have ht:t<g.terms+1:=by simpa using List.mem_range.1 ht
  rw[getD_some (map_at (List.getElem?_range ht)),if_neg];have:=ll_acts hg hP ok hA hs (show t≤g.terms by omega);omega
end
theorem makeJ_spec(F:Frz)(g:Gram)(hg:Valid g)(J:List Bool→List (List Bool)→Prop)(hJ0:J (List.replicate g.nons false) (List.replicate g.nons (List.replicate g.terms false)))
  (hJs:∀E Fi r,r∈g.rules→J E Fi→∀E',(E'=E∨(E'=E.set r.left true∧(ofRow E Fi (List.replicate g.terms false) r.right).2=true))→J E' (Fi.set r.left (orRow (Fi.getD r.left []) (ofRow E Fi (List.replicate g.terms false) r.right).1)))
  {a:Option Addr} {m c:Nat} (hr:Arr tRule F a m c g.rules) :
  Abs.Spec CC 33 [.agg ⟨gramCells g a m c⟩] F [] fun F' v o=>o=[]∧∃is E Fi,v=.pointer (some ⟨is,0,none⟩)∧SetsF F' is g a m c E Fi∧J E Fi∧E.length=g.nons∧Fi.length=g.nons:=by
 unfold gramCells;have hrlen:=hr.len;have hgr:=hg.range.rules;have hgn:=hg.range.nons;have hgt:=hg.range.terms;refine Abs.Spec.fn (n:=81) Tryz.func33 rfl rfl fun own=>?_;refine AW.seq (AW.reg ?_);refine WT.boxT Z Z Z Z Z Z (fun i1 hi1=>?_);refine WT.freezeAll 0 Z Z (fun F0 hF0 hB0=>?_);have hi1:=hB0 i1 _ me;have hr:=hr.mono hF0;refine zB4 ?_;refine AW.draw (ps:=[(0,3)]) Z Z ?_;refine zB4 ?_;refine WT.makeT (l:=g.nons) hT Z Z Z Z Z Z Z Z Z Z Z Z zom (fun ie hie=>?_);rw[cap_eq];refine zB4 ?_;refine WT.boxT Z Z Z Z Z Z (fun is his=>?_);refine zB4 ?_;refine⟨zrC,?_⟩;refine zB4 ?_
 refine AW.range (S:=FS) (fun _=>[]) (fun s=>[(is,.cells false [.int .i64 g.terms,.int .i64 g.nons,.int .i64 g.start,.slice a m c,.slice (some ⟨ie,0,none⟩) g.nons (if g.nons=0 then 0 else 1),.slice s.a s.m s.c])]::s.B::[(ie,.cells false (List.replicate g.nons (.bool false)))]::s.bs::[]::own)
  (fun j s G=>Bld tRaw G s.a s.m s.c s.B s.vs∧Abs.Rows cBool s.vs s.bs (List.replicate j (List.replicate g.terms false))) g.nons ⟨none,0,0,[],[],[]⟩ Z Z Z Z Z Z Z Z Z zo rfl rfl (fun _=>rfl) (fun _=>rfl) sM (OwnLe.flat (List.Perm.refl _)) ⟨Bld.nil_ _ _,Abs.Rows.nil⟩ ?_ ?_
 ·intro j s F1 hF1 hj hP;obtain⟨hb,hR⟩:=hP;have hi1:=hF1 _ _ hi1;have hblen:=hb.len;have hvl:=hR.len.1;rw[List.length_replicate] at hvl;refine AW.draw (ps:=[(4,7),(4,8)]) Z Z ?_;refine zB4 ?_;refine WT.makeT (l:=g.terms) hT Z Z Z Z Z Z Z Z Z Z Z Z zom (fun ir hir=>?_);rw[cap_eq];refine WT.buildT hT Z Z Z Z Z Z Z Z Z Z Z Z Z Z (fun i9 hi9=>?_)
  refine WT.appendT (R:=tRaw) (ys:=[.slice (some ⟨ir,0,none⟩) g.terms (if g.terms=0 then 0 else 1)]) hT 3 hb Z (fun _=>rfl) Z Z Z Z Z Z Z Z Z Z Z (fun h0 s0=>news_own hT s0 0 Z Z Z Z) (Cells.single (R:=tRaw) ⟨rfl,rfl⟩) Z (by decide) zom (fun a3 c3 B3 hB3=>?_);refine zB4 ?_;refine⟨zrC,?_⟩;refine⟨⟨a3,s.m+1,c3,B3,s.vs++[.slice (some ⟨ir,0,none⟩) g.terms (if g.terms=0 then 0 else 1)],s.bs++[(ir,.cells false (List.replicate g.terms (.bool false)))]⟩,sM,?_,hB3,?_⟩
  ·refine OwnLe.skip _ (OwnLe.flat ?_);simp only[List.flatten_cons,List.singleton_append];have:=perm_to_end (ir,Blk.cells false (List.replicate g.terms (.bool false))) ((is,Blk.cells false [.int .i64 g.terms,.int .i64 g.nons,.int .i64 g.start,.slice a m c,.slice (some ⟨ie,0,none⟩) g.nons (if g.nons=0 then 0 else 1),.slice a3 (s.m+1) c3])::(B3++[(ie,.cells false (List.replicate g.nons (.bool false)))])) s.bs ([]++own.flatten);simpa using this
  ·rw[show List.replicate (j+1) (List.replicate g.terms false)=List.replicate j (List.replicate g.terms false)++[List.replicate g.terms false] from List.replicate_succ'];have:=hR.snoc (K:=cBool) (id:=ir) (row:=List.replicate g.terms false) (c:=if g.terms=0 then 0 else 1) (by simp);rw[List.length_replicate,List.map_replicate] at this;exact this
 ·intro s F1 hF1 hP;obtain⟨hb,hR⟩:=hP;have hi1:=hF1 _ _ hi1;have hvl:=hR.len.1;rw[List.length_replicate] at hvl;have hr1:=hr.mono hF1;have hblen:=hb.len;obtain⟨io,cs,hia,hic,hiB,hcells,_⟩:=hb.at_.resolve_left (fun h=>by rw[h.1] at hvl;simp at hvl;omega);have hcs:=cells_raw hcells;subst hcs;have hic:s.c=1:=hic;refine zB4 ?_
  refine AW.le (own2:=((is,.cells false [.int .i64 g.terms,.int .i64 g.nons,.int .i64 g.start,.slice a m c,.slice (some ⟨ie,0,none⟩) g.nons (if g.nons=0 then 0 else 1),.slice (some ⟨io,0,none⟩) g.nons 1])::(io,.cells false s.vs)::(ie,.cells false ((List.replicate g.nons false).map cBool.cell))::s.bs)::own) (OwnLe.flat ?_) ?_
  ·rw[hia,hic,hiB,show s.m=g.nons by omega,List.map_replicate];exact List.Perm.refl _
  refine AW.block ?_;refine AW.loopR (S:=FM) (fun t=>[(4,.bool t.again)]) (fun t=>((is,.cells false [.int .i64 g.terms,.int .i64 g.nons,.int .i64 g.start,.slice a m c,.slice (some ⟨ie,0,none⟩) g.nons (if g.nons=0 then 0 else 1),.slice (some ⟨io,0,none⟩) g.nons 1])::(io,.cells false s.vs)::(ie,.cells false (t.E.map cBool.cell))::t.bs)::own)
   (fun t G=>Abs.Rows cBool s.vs t.bs t.Fi∧TabOk g.nons g.terms t.Fi∧t.E.length=g.nons∧(t.again=false→FirstClosed g t.E t.Fi)∧J t.E t.Fi) (fun t=>if t.again=true then 1+(g.nons+g.nons*g.terms-(ones t.E+onesT t.Fi)) else 0) ⟨List.replicate g.nons false,List.replicate g.nons (List.replicate g.terms false),s.bs,true⟩
   sM oR ⟨hR,⟨by simp,fun r hr=>by rw[List.eq_of_mem_replicate hr];simp⟩,by simp,fun h=>(by cases h),hJ0⟩ ?_
  intro t F2 hF2 hP;obtain⟨hR,hM,hE,hC,hJ⟩:=hP;have hi1:=hF2 _ _ hi1;have hr2:=hr1.mono hF2;refine zB4 ?_;refine AW.cond Z (fun h=>?_) (fun h=>?_)
  ·refine zB4 ?_;refine AW.block ?_;refine zB4 ?_;refine AW.range (S:=FM) (fun t=>[(4,.bool t.again)]) (fun t=>((is,.cells false [.int .i64 g.terms,.int .i64 g.nons,.int .i64 g.start,.slice a m c,.slice (some ⟨ie,0,none⟩) g.nons (if g.nons=0 then 0 else 1),.slice (some ⟨io,0,none⟩) g.nons 1])::(io,.cells false s.vs)::(ie,.cells false (t.E.map cBool.cell))::t.bs)::own)
    (fun k u G=>Abs.Rows cBool s.vs u.bs u.Fi∧TabOk g.nons g.terms u.Fi∧u.E.length=g.nons∧ones t.E+onesT t.Fi≤ones u.E+onesT u.Fi∧(u.again=true→ones t.E+onesT t.Fi<ones u.E+onesT u.Fi)∧(u.again=false→∀r∈g.rules.take k,RuleClosed g.terms u.E u.Fi r)∧J u.E u.Fi) m ⟨t.E,t.Fi,t.bs,false⟩
    Z Z Z Z Z Z Z Z Z zo rfl rfl (fun _=>rfl) (fun _=>rfl) sM oR ⟨hR,hM,hE,Nat.le_refl _,fun h=>(by cases h),by simp,hJ⟩ ?_ ?_
   ·intro k u F3 hF3 hk hP;obtain⟨hR,hM,hE,hT1,hT2,hC,hJu⟩:=hP;have hi1:=hF3 _ _ hi1;have hr3:=hr2.mono hF3;refine zB4 ?_;refine WT.idxL hT hr3 Z Z Z Z Z Z Z Z Z zo (fun r hrk b1 off ro cs lx hb hp1 hrel=>?_);obtain⟨b2,n2,d2,rfl,hr4⟩:=hrel;obtain⟨hrl,hrr,hrs⟩:=hg.right r (gM hrk);have hr4l:=hr4.len;refine zB4 ?_;refine WT.allocT hT Z Z Z Z Z Z (fun i6 hi6=>?_);refine zB4 ?_
    have lk3:∀G,Frz.le F3 G→(∀i b,(i,b)∈((is,Blk.cells false [.int .i64 g.terms,.int .i64 g.nons,.int .i64 g.start,.slice a m c,.slice (some ⟨ie,0,none⟩) g.nons (if g.nons=0 then 0 else 1),.slice (some ⟨io,0,none⟩) g.nons 1])::(io,.cells false s.vs)::(ie,.cells false (u.E.map cBool.cell))::u.bs)→G i=some b)→
      Arr tBool G (some ⟨ie,0,none⟩) g.nons (if g.nons=0 then 0 else 1) u.E∧Arr (tList tBool) G (some ⟨io,0,none⟩) g.nons 1 u.Fi:=by
     intro G hG hBG;constructor
     ·have:=arr_of_cells (K:=cBool) (R:=tBool) (F:=G) (id:=ie) (row:=u.E) (c:=if u.E.length=0 then 0 else 1) (ro:=false) rfl (fun _ _=>rfl) rfl (hBG ie _ (by simp));rw[hE] at this;exact this
     ·have:=Abs.Rows.arr (K:=cBool) (R:=tBool) rfl (fun _ _=>rfl) (F:=G) (o:=io) (c:=if u.Fi.length=0 then 0 else 1) (ro:=false) hR (fun i b hm=>hBG i b (by simp[hm])) rfl (hBG io _ (by simp));rw[hM.size,if_neg zo] at this;exact this
    refine WT.callLendN 1 Tryz.func35 Z Z Z Z Z Z Z (fun G hG hBG=>sof_spec G (terms:=g.terms) (nons:=g.nons) (hBG is _ me) (lk3 G hG hBG).1 (lk3 G hG hBG).2 hM.row zo (hr4.mono hG) zo hrs) (fun v B hv=>?_);obtain⟨ir,rfl,hofl,rfl⟩:=hv;have hRC:RuleClosed g.terms u.E u.Fi r↔orRow (u.Fi.getD r.left []) (ofRow u.E u.Fi (List.replicate g.terms false) r.right).1=u.Fi.getD r.left []∧((ofRow u.E u.Fi (List.replicate g.terms false) r.right).2=true→u.E.getD r.left false=true):=Iff.rfl;have hJr:=hJs u.E u.Fi r (gM hrk) hJu
    generalize ofRow u.E u.Fi (List.replicate g.terms false) r.right=fr at hofl hRC hJr ⊢;obtain⟨row,emp⟩:=fr;dsimp only at hofl hRC hJr;have hFl:r.left<u.Fi.length:=by rw[hM.size];exact hrl
    have hrow0:=gE hFl;generalize hrow0':u.Fi[r.left]=old at hrow0;have holdl:=hM.row old (gM hrow0);obtain⟨id,cc,hvs,hbs,hcc⟩:=hR.at r.left old hrow0;rw[holdl] at hvs;have hvs':s.vs[0+r.left*1]?=some (.slice (some ⟨id,0,none⟩) g.terms cc):=by rw[Nat.zero_add,Nat.mul_one];exact hvs
    have hgetF:u.Fi.getD r.left []=old:=by rw[List.getD_eq_getElem?_getD,hrow0];rfl
    have hEl:r.left<u.E.length:=by rw[hE];exact hrl
    obtain⟨e0,he0⟩:∃e0,u.E[r.left]?=some e0:=⟨_,gE hEl⟩;have hgetE:u.E.getD r.left false=e0:=by rw[List.getD_eq_getElem?_getD,he0];rfl
    have hE0c:(u.E.map cBool.cell)[0+r.left*1]?=some (.bool e0):=by rw[Nat.zero_add,Nat.mul_one,List.getElem?_map,he0];rfl
    have hol:(orRow old row).length=g.terms:=by rw[orRow_len zo];exact holdl
    have hR':=hR.set r.left old (orRow old row) id hrow0 zo hbs;have hM':TabOk g.nons g.terms (u.Fi.set r.left (orRow old row)):=hM.setRow _ hol;have hcnt:=onesT_set (row':=orRow old row) hrow0;have hone:=ones_or (xs:=old) (ys:=row) zo;have hset_same:orRow old row=old→u.Fi.set r.left (orRow old row)=u.Fi:=by
     intro e;rw[e];apply List.ext_getElem?;intro i;by_cases hi:i=r.left
     ·subst hi;rw[List.getElem?_set_self hFl,hrow0]
     ·rw[List.getElem?_set_ne zo]
    rw[hgetF,hgetE] at hRC;rw[hgetF] at hJr;refine zB4 ?_;refine WT.idxA (j:=r.left) (s:=1) hT Z Z Z Z Z Z Z Z Z hrl ?_;refine WT.loadAt hT 2 Z Z Z Z Z Z (List.mem_cons_of_mem _ me) Z Z hvs' ?_;refine zB4 ?_;have hpk:=perm_pick hbs;have hps:=perm_set (id,Blk.cells false ((orRow old row).map cBool.cell)) hbs
    refine WT.le (own2:=[(ir,.cells false (row.map cBool.cell))]::[(id,.cells false (old.map cBool.cell))]::((is,.cells false [.int .i64 g.terms,.int .i64 g.nons,.int .i64 g.start,.slice a m c,.slice (some ⟨ie,0,none⟩) g.nons (if g.nons=0 then 0 else 1),.slice (some ⟨io,0,none⟩) g.nons 1])::(io,.cells false s.vs)::(ie,.cells false (u.E.map cBool.cell))::u.bs.eraseIdx r.left)::[(i6,.cells false [.int .i64 r.left,.slice b2 n2 d2])]::own) (OwnLe.flat ?_) ?_
    ·simp only[List.flatten_cons];refine List.Perm.append_left _ ?_;exact perm_borrow _ _ [_,_,_] _ _ _ hpk
    refine WT.callLend1 (upd:=fun D'=>[(ir,.cells false (row.map cBool.cell))]::D'::((is,.cells false [.int .i64 g.terms,.int .i64 g.nons,.int .i64 g.start,.slice a m c,.slice (some ⟨ie,0,none⟩) g.nons (if g.nons=0 then 0 else 1),.slice (some ⟨io,0,none⟩) g.nons 1])::(io,.cells false s.vs)::(ie,.cells false (u.E.map cBool.cell))::u.bs.eraseIdx r.left)::[(i6,.cells false [.int .i64 r.left,.slice b2 n2 d2])]::own) 0 1 Tryz.func36 Z Z Z Z Z Z (List.Perm.refl _) (fun _=>List.Perm.refl _) (fun G hG hBG=>union_spec G (it:=id) (xs:=old) (ys:=row) (m:=g.terms) zo (by
     have:=arr_of_cells (K:=cBool) (R:=tBool) (F:=G) (id:=ir) (row:=row) (c:=if row.length=0 then 0 else 1) (ro:=false) rfl (fun _ _=>rfl) rfl (hBG ir _ me);rw[hofl] at this;exact this) zo zo) (fun v D hv=>?_)
    obtain⟨rfl,rfl⟩:=hv;refine WT.le (own2:=[(ir,.cells false (row.map cBool.cell))]::[(i6,.cells false [.int .i64 r.left,.slice b2 n2 d2])]::((is,.cells false [.int .i64 g.terms,.int .i64 g.nons,.int .i64 g.start,.slice a m c,.slice (some ⟨ie,0,none⟩) g.nons (if g.nons=0 then 0 else 1),.slice (some ⟨io,0,none⟩) g.nons 1])::(io,.cells false s.vs)::(ie,.cells false (u.E.map cBool.cell))::u.bs.set r.left (id,.cells false ((orRow old row).map cBool.cell)))::own) (OwnLe.flat ?_) ?_
    ·simp only[List.flatten_cons];refine List.Perm.append_left _ ?_;exact(perm_borrow _ _ [_,_,_] _ _ _ hps).symm
    refine zB4 ?_;have done:∀(E':List Bool) (ag:Bool),(E'=u.E∨(E'=u.E.set r.left true∧e0=false∧ag=true∧emp=true))→(orRow old row≠old→ag=true)→(u.again=true→ag=true)→(ag=true→u.again=true∨orRow old row≠old∨ones E'=ones u.E+1)→(ag=false→emp=true→e0=true)→
      (Abs.Rows cBool s.vs (u.bs.set r.left (id,.cells false ((orRow old row).map cBool.cell))) (u.Fi.set r.left (orRow old row))∧TabOk g.nons g.terms (u.Fi.set r.left (orRow old row))∧E'.length=g.nons∧ones t.E+onesT t.Fi≤ones E'+onesT (u.Fi.set r.left (orRow old row))∧(ag=true→ones t.E+onesT t.Fi<ones E'+onesT (u.Fi.set r.left (orRow old row)))∧(ag=false→∀r'∈g.rules.take (k+1),RuleClosed g.terms E' (u.Fi.set r.left (orRow old row)) r')∧J E' (u.Fi.set r.left (orRow old row))):=by
     intro E' ag hE' h1 h2 h3 h4;have hE1:ones u.E≤ones E'∧E'.length=g.nons:=by
      rcases hE' with rfl | ⟨rfl,h5,_,_⟩
      ·exact⟨Nat.le_refl _,hE⟩
      ·subst h5;rw[ones_set he0];exact⟨by omega,by simp[hE]⟩
     refine⟨hR',hM',hE1.2,by omega,fun hag=>?_,fun hag=>?_,hJr E' (hE'.imp (fun h=>h) fun h=>⟨h.1,h.2.2.2⟩)⟩
     ·rcases h3 hag with h5 | h5 | h5
      ·have:=hT2 h5;omega
      ·have:=hone.2 h5;omega
      ·omega
     ·have hch:orRow old row=old:=by
       rcases Classical.em (orRow old row=old) with h5 | h5
       ·exact h5
       ·rw[h1 h5] at hag;cases hag
      have hua:u.again=false:=by
       cases hu:u.again with
       | false=>rfl
       | true=>rw[h2 hu] at hag;cases hag
      have hEE:E'=u.E:=by
       rcases hE' with h5 | ⟨_,_,h5,_⟩
       ·exact h5
       ·rw[h5] at hag;cases hag
      subst hEE;rw[hset_same hch];exact take_all hrk (hC hua) (hRC.2 ⟨hch,h4 hag⟩)
    have ownE:∀ag,OwnLe ((fun t:FM=>((is,Blk.cells false [.int .i64 g.terms,.int .i64 g.nons,.int .i64 g.start,.slice a m c,.slice (some ⟨ie,0,none⟩) g.nons (if g.nons=0 then 0 else 1),.slice (some ⟨io,0,none⟩) g.nons 1])::(io,.cells false s.vs)::(ie,.cells false (t.E.map cBool.cell))::t.bs)::own) ⟨u.E.set r.left true,u.Fi.set r.left (orRow old row),u.bs.set r.left (id,.cells false ((orRow old row).map cBool.cell)),ag⟩)
      (((is,Blk.cells false [.int .i64 g.terms,.int .i64 g.nons,.int .i64 g.start,.slice a m c,.slice (some ⟨ie,0,none⟩) g.nons (if g.nons=0 then 0 else 1),.slice (some ⟨io,0,none⟩) g.nons 1])::(io,.cells false s.vs)::(ie,.cells false ((u.E.map cBool.cell).set (0+r.left*1) (.bool true)))::u.bs.set r.left (id,.cells false ((orRow old row).map cBool.cell)))::own):=by
     intro ag;refine OwnLe.flat ?_;dsimp only;rw[List.map_set,Nat.zero_add,Nat.mul_one];exact List.Perm.refl _
    refine WT.split 57 Z (fun h3=>?_) (fun h3=>?_)
    ·have hch:orRow old row≠old:=of_decide_eq_true h3;refine zB4 ?_;refine WT.split 61 Z (fun h4=>?_) (fun h4=>?_)
     ·refine zB4 ?_;refine WT.idxA (j:=r.left) (s:=1) hT Z Z Z Z Z Z Z Z Z hrl ?_;refine WT.loadAt hT 2 Z Z Z Z Z Z (List.mem_cons_of_mem _ (List.mem_cons_of_mem _ me)) Z Z hE0c ?_;refine zB4 ?_;refine AW.cond Z (fun h5=>?_) (fun h5=>?_)
      ·have h5:e0=false:=by simpa using h5
       refine zB4 ?_;refine WT.idxA (j:=r.left) (s:=1) hT Z Z Z Z Z Z Z Z Z hrl ?_;refine WT.storeAt hT 2 2 Z Z Z Z Z Z Z Z Z Z (by simp;omega) Z Z ?_;refine zB4 ?_;exact⟨_,sM,OwnLe.skip _ (OwnLe.skip _ (ownE true)),done _ true (.inr ⟨rfl,h5,rfl,h4⟩) (fun _=>rfl) (fun _=>rfl) (fun _=>.inr (.inr (by subst h5;exact ones_set he0))) (fun h=>(by cases h))⟩
      ·have h5:e0=true:=by simpa using h5
       refine zB4 ?_;exact⟨⟨u.E,u.Fi.set r.left (orRow old row),u.bs.set r.left (id,.cells false ((orRow old row).map cBool.cell)),true⟩,sM,zow,done _ true (.inl rfl) (fun _=>rfl) (fun _=>rfl) (fun _=>.inr (.inl hch)) (fun _ _=>h5)⟩
     ·refine zB4 ?_;refine AW.cond Z (fun h5=>(by cases h5)) (fun _=>?_);refine zB4 ?_;exact⟨⟨u.E,u.Fi.set r.left (orRow old row),u.bs.set r.left (id,.cells false ((orRow old row).map cBool.cell)),true⟩,sM,zow,done _ true (.inl rfl) (fun _=>rfl) (fun _=>rfl) (fun _=>.inr (.inl hch)) (fun _ he=>(by rw[show emp=false from h4] at he;cases he))⟩
    ·have hch:orRow old row=old:=by simpa using h3
     refine zB4 ?_;refine WT.split 61 Z (fun h4=>?_) (fun h4=>?_)
     ·refine zB4 ?_;refine WT.idxA (j:=r.left) (s:=1) hT Z Z Z Z Z Z Z Z Z hrl ?_;refine WT.loadAt hT 2 Z Z Z Z Z Z (List.mem_cons_of_mem _ (List.mem_cons_of_mem _ me)) Z Z hE0c ?_;refine zB4 ?_;refine AW.cond Z (fun h5=>?_) (fun h5=>?_)
      ·have h5:e0=false:=by simpa using h5
       refine zB4 ?_;refine WT.idxA (j:=r.left) (s:=1) hT Z Z Z Z Z Z Z Z Z hrl ?_;refine WT.storeAt hT 2 2 Z Z Z Z Z Z Z Z Z Z (by simp;omega) Z Z ?_;refine zB4 ?_;exact⟨_,sM,OwnLe.skip _ (OwnLe.skip _ (ownE true)),done _ true (.inr ⟨rfl,h5,rfl,h4⟩) (fun _=>rfl) (fun _=>rfl) (fun _=>.inr (.inr (by subst h5;exact ones_set he0))) (fun h=>(by cases h))⟩
      ·have h5:e0=true:=by simpa using h5
       refine zB4 ?_;exact⟨⟨u.E,u.Fi.set r.left (orRow old row),u.bs.set r.left (id,.cells false ((orRow old row).map cBool.cell)),u.again⟩,sM,zow,done _ u.again (.inl rfl) (fun hne=>absurd hch hne) (fun h=>h) (fun h=>.inl h) (fun _ _=>h5)⟩
     ·refine zB4 ?_;refine AW.cond Z (fun h5=>(by cases h5)) (fun _=>?_);refine zB4 ?_;exact⟨⟨u.E,u.Fi.set r.left (orRow old row),u.bs.set r.left (id,.cells false ((orRow old row).map cBool.cell)),u.again⟩,sM,zow,done _ u.again (.inl rfl) (fun hne=>absurd hch hne) (fun h=>h) (fun h=>.inl h) (fun _ he=>(by rw[show emp=false from h4] at he;cases he))⟩
   ·intro u F3 hF3 hP;obtain⟨hR,hM,hE,hT1,hT2,hC,hJu⟩:=hP;rw[List.take_of_length_le zo] at hC;refine⟨u,?_,sM,zow,hR,hM,hE,hC,hJu⟩;have h1:=onesT_le hM;have h2:=ones_le u.E;rw[h,if_pos rfl];split
    ·rename_i h4;have:=hT2 h4;omega
    ·omega
  ·refine AW.exit ?_;refine AW.freezeAll 0 Z Z (fun F3 hF3 hB3=>?_);refine zB4 ?_;have hEa:=arr_of_cells (K:=cBool) (R:=tBool) (F:=F3) (id:=ie) (row:=t.E) (c:=if t.E.length=0 then 0 else 1) (ro:=false) rfl (fun _ _=>rfl) rfl (hB3 ie _ (by simp));rw[hE] at hEa;have hFa:=Abs.Rows.arr (K:=cBool) (R:=tBool) rfl (fun _ _=>rfl) (F:=F3) (o:=io) (c:=if t.Fi.length=0 then 0 else 1) (ro:=false) hR (fun i b hm=>hB3 i b (by simp[hm])) rfl (hB3 io _ (by simp));rw[hM.size,if_neg zo] at hFa
   exact AW.ret ⟨_,[],⟨_,_,rfl,rfl,rfl⟩,zsb,rfl,is,t.E,t.Fi,rfl,⟨⟨ie,io,_,_,false,hB3 is _ (by simp),hEa,hFa⟩,hM.row,hr2.mono hF3,hC h⟩,hJ,hE,hM.size⟩
def FSnd(g:Gram)(E:List Bool)(Fi:List (List Bool)):Prop:=(∀n,E.getD n false=true→Nul g n)∧∀n t,(Fi.getD n []).getD t false=true→Beg g n t
theorem orRow_get:∀{xs ys:List Bool} {t:Nat},(orRow xs ys).getD t false=true→xs.getD t false=true∨ys.getD t false=true
 | [],_,_,h=>by simp[orRow] at h
 | _::_,[],_,h=>by simp[orRow] at h
 | x::xs,y::ys,0,h=>by simp only[orRow,List.zipWith_cons_cons,List.getD_cons_zero] at h;simpa using h
 | x::xs,y::ys,t+1,h=>by
  simp only[orRow,List.zipWith_cons_cons,List.getD_cons_succ] at h;exact orRow_get (xs:=xs) (ys:=ys) h
theorem orRow_left:∀{xs ys:List Bool} {t:Nat},xs.length=ys.length→(xs.getD t false=true∨ys.getD t false=true)→(orRow xs ys).getD t false=true
 | [],[],_,_,h=>by simp at h
 | [],_::_,_,hl,_=>by simp at hl
 | _::_,[],_,hl,_=>by simp at hl
 | x::xs,y::ys,0,_,h=>by simp only[orRow,List.zipWith_cons_cons,List.getD_cons_zero] at h ⊢;simpa using h
 | x::xs,y::ys,t+1,hl,h=>by
  simp only[orRow,List.zipWith_cons_cons,List.getD_cons_succ] at h ⊢;exact orRow_left (xs:=xs) (ys:=ys) (by simpa using hl) h
theorem set_get{l:List Bool}{n t:Nat}(h:(l.set n true).getD t false=true):t=n∨l.getD t false=true:=by
 by_cases e:t=n
 ·exact .inl e
 ·right;rw[List.getD_eq_getElem?_getD,List.getElem?_set_ne (fun e2=>e e2.symm)] at h;rw[List.getD_eq_getElem?_getD];exact h
theorem ofRow_sound{g:Gram}{E:List Bool}{Fi:List (List Bool)}(h:FSnd g E Fi):∀(l:List Sym) (out:List Bool),(∀t,(ofRow E Fi out l).1.getD t false=true→out.getD t false=true∨BegL g l t)∧((ofRow E Fi out l).2=true→NulL g l)
 | [],out=>⟨fun t ht=>.inl ht,fun _=>NulL.nil⟩
 | s::l,out=>by
  obtain⟨b,n⟩:=s;unfold ofRow;cases b with
  | true=>
   rw[if_pos rfl];refine⟨fun t ht=>?_,fun h=>(by cases h)⟩;rcases set_get ht with rfl | h2
   ·exact .inr (BegL.head (.inl rfl))
   ·exact .inl h2
  | false=>
   rw[if_neg (by simp)];have hrow:∀t,(orRow out (Fi.getD n [])).getD t false=true→out.getD t false=true∨BegL g (⟨false,n⟩::l) t:=fun t ht=>by
    rcases orRow_get ht with h2 | h2
    ·exact .inl h2
    ·exact .inr (BegL.head (.inr ⟨rfl,h.2 n t h2⟩))
   split
   ·rename_i hE;obtain⟨h1,h2⟩:=ofRow_sound h l (orRow out (Fi.getD n []));refine⟨fun t ht=>?_,fun ht=>NulL.cons rfl (h.1 n hE) (h2 ht)⟩;rcases h1 t ht with h3 | h3
    ·exact hrow t h3
    ·exact .inr (BegL.cons rfl (h.1 n hE) h3)
   ·exact⟨fun t ht=>hrow t ht,fun h=>(by cases h)⟩
theorem zeros_get{n t:Nat}:¬(List.replicate n false).getD t false=true:=by
 rw[List.getD_eq_getElem?_getD,List.getElem?_replicate];split<;>simp
theorem FSnd.zero{g:Gram}:FSnd g (List.replicate g.nons false) (List.replicate g.nons (List.replicate g.terms false)):=by
 refine⟨fun n h=>absurd h zeros_get,fun n t h=>?_⟩;rw[List.getD_eq_getElem?_getD,List.getD_eq_getElem?_getD,List.getElem?_replicate] at h;split at h
 ·rw[←List.getD_eq_getElem?_getD] at h;exact absurd h zeros_get
 ·simp at h
theorem FSnd.step{g:Gram}{E:List Bool}{Fi:List (List Bool)}{r:Rule}(hr:r∈g.rules)(h:FSnd g E Fi){E':List Bool}(hE':E'=E∨(E'=E.set r.left true∧(ofRow E Fi (List.replicate g.terms false) r.right).2=true)) :
  FSnd g E' (Fi.set r.left (orRow (Fi.getD r.left []) (ofRow E Fi (List.replicate g.terms false) r.right).1)):=by
 obtain⟨h1,h2⟩:=ofRow_sound h r.right (List.replicate g.terms false);refine⟨fun n hn=>?_,fun n t hn=>?_⟩
 ·rcases hE' with rfl | ⟨rfl,he⟩
  ·exact h.1 n hn
  ·rcases set_get hn with rfl | h3
   ·exact .of hr (h2 he)
   ·exact h.1 n h3
 ·by_cases e:n=r.left
  ·subst e;rw[List.getD_eq_getElem?_getD (l:=Fi.set _ _),List.getElem?_set] at hn;rw[if_pos rfl] at hn;split at hn
   ·rw[Option.getD_some] at hn;rcases orRow_get hn with h3 | h3
    ·exact h.2 _ _ h3
    ·rcases h1 t h3 with h4 | h4
     ·exact absurd h4 zeros_get
     ·exact .of hr h4
   ·simp at hn
  ·rw[List.getD_eq_getElem?_getD (l:=Fi.set _ _),List.getElem?_set_ne (fun e2=>e e2.symm),←List.getD_eq_getElem?_getD] at hn;exact h.2 n t hn
section
variable {g:Gram}{E:List Bool}{Fi:List (List Bool)}
theorem ofRow_len(hrow:∀n,n<g.nons→(Fi.getD n []).length=g.terms):∀(l:List Sym) (out:List Bool),(∀s∈l,SymOk g.terms g.nons s)→out.length=g.terms→(ofRow E Fi out l).1.length=g.terms
 | [],out,_,h=>h
 | s::l,out,hs,h=>by
  unfold ofRow;split
  ·rw[List.length_set];exact h
  ·rename_i ht;have hn:s.n<g.nons:=by have:=hs s me;unfold SymOk at this;rw[if_neg ht] at this;exact this
   have h2:(orRow out (Fi.getD s.n [])).length=g.terms:=by rw[orRow_len (by rw[h,hrow _ hn])];exact h
   split
   ·exact ofRow_len hrow l _ (fun x hx=>hs x (List.mem_cons_of_mem _ hx)) h2
   ·exact h2
theorem ofRow_keep(hrow:∀n,n<g.nons→(Fi.getD n []).length=g.terms){t:Nat}:∀(l:List Sym) (out:List Bool),(∀s∈l,SymOk g.terms g.nons s)→out.length=g.terms→out.getD t false=true→(ofRow E Fi out l).1.getD t false=true
 | [],out,_,_,h=>h
 | s::l,out,hs,hl,h=>by
  unfold ofRow;split
  ·rw[List.getD_eq_getElem?_getD,List.getElem?_set];split
   ·split
    ·rfl
    ·rename_i h1 h2;subst h1;rw[List.getD_eq_getElem?_getD,List.getElem?_eq_none zo] at h;simp at h
   ·rw[←List.getD_eq_getElem?_getD];exact h
  ·rename_i ht;have hn:s.n<g.nons:=by have:=hs s me;unfold SymOk at this;rw[if_neg ht] at this;exact this
   have h2:(orRow out (Fi.getD s.n [])).length=g.terms:=by rw[orRow_len (by rw[hl,hrow _ hn])];exact hl
   have h3:(orRow out (Fi.getD s.n [])).getD t false=true:=orRow_left (by rw[hl,hrow _ hn]) (.inl h);split
   ·exact ofRow_keep hrow l _ (fun x hx=>hs x (List.mem_cons_of_mem _ hx)) h2 h3
   ·exact h3
theorem ofRow_null:∀(l:List Sym) (out:List Bool),(∀s∈l,s.term=false∧E.getD s.n false=true)→(ofRow E Fi out l).2=true
 | [],_,_=>rfl
 | s::l,out,h=>by
  obtain⟨h1,h2⟩:=h s me;unfold ofRow;rw[if_neg (by rw[h1];simp),if_pos h2];exact ofRow_null l _ fun x hx=>h x (List.mem_cons_of_mem _ hx)
theorem ofRow_beg(hrow:∀n,n<g.nons→(Fi.getD n []).length=g.terms){t:Nat}{s:Sym}{post:List Sym}(hs:(s=⟨true,t⟩)∨(s.term=false∧(Fi.getD s.n []).getD t false=true)) :
  ∀(pre:List Sym) (out:List Bool),(∀x∈pre++s::post,SymOk g.terms g.nons x)→out.length=g.terms→(∀x∈pre,x.term=false∧E.getD x.n false=true)→(ofRow E Fi out (pre++s::post)).1.getD t false=true
 | [],out,hok,hl,_=>by
  have hso:=hok s (List.mem_append_right _ me);rcases hs with rfl | ⟨h1,h2⟩
  ·show (ofRow E Fi out (⟨true,t⟩::post)).1.getD t false=true;unfold ofRow;rw[if_pos rfl];have ht:t<g.terms:=hso;show (out.set t true).getD t false=true;rw[List.getD_eq_getElem?_getD,List.getElem?_set_self zo];rfl
  ·have hn:s.n<g.nons:=by unfold SymOk at hso;rw[if_neg (by rw[h1];simp)] at hso;exact hso
   show (ofRow E Fi out (s::post)).1.getD t false=true;unfold ofRow;rw[if_neg (by rw[h1];simp)];have h3:(orRow out (Fi.getD s.n [])).length=g.terms:=by rw[orRow_len (by rw[hl,hrow _ hn])];exact hl
   have h4:(orRow out (Fi.getD s.n [])).getD t false=true:=orRow_left (by rw[hl,hrow _ hn]) (.inr h2);split
   ·exact ofRow_keep hrow post _ (fun x hx=>hok x (List.mem_append_right _ (List.mem_cons_of_mem _ hx))) h3 h4
   ·exact h4
 | x::pre,out,hok,hl,hp=>by
  obtain⟨h1,h2⟩:=hp x me;have hxo:=hok x me;have hn:x.n<g.nons:=by unfold SymOk at hxo;rw[if_neg (by rw[h1];simp)] at hxo;exact hxo
  show (ofRow E Fi out (x::(pre++s::post))).1.getD t false=true;unfold ofRow;rw[if_neg (by rw[h1];simp),if_pos h2];exact ofRow_beg hrow hs pre _ (fun y hy=>hok y (List.mem_cons_of_mem _ hy)) (by rw[orRow_len (by rw[hl,hrow _ hn])];exact hl) fun y hy=>hp y (List.mem_cons_of_mem _ hy)
theorem closed_nul(hc:FirstClosed g E Fi){n:Nat}(h:Nul g n):E.getD n false=true:=by
 induction h with
 | mk hr h1 h2 ih=>exact(hc _ hr).2 (ofRow_null _ _ fun s hs=>⟨h1 s hs,ih s hs⟩)
theorem closed_key(hg:Valid g)(hc:FirstClosed g E Fi)(hrow:∀n,n<g.nons→(Fi.getD n []).length=g.terms){t:Nat}:∀{r:Rule} {pre post:List Sym} {s:Sym},r∈g.rules→r.right=pre++s::post→NulL g pre→((s=⟨true,t⟩)∨(s.term=false∧(Fi.getD s.n []).getD t false=true))→(Fi.getD r.left []).getD t false=true:=by
 intro r pre post s hr e hn hs;obtain⟨hrl,_,hok⟩:=hg.right r hr;rw[e] at hok;have h1:=ofRow_beg (E:=E) hrow (post:=post) hs pre (List.replicate g.terms false) hok (by simp) (fun x hx=>⟨(hn x hx).1,closed_nul hc (hn x hx).2⟩);have h2:=ofRow_len (E:=E) hrow (pre++s::post) (List.replicate g.terms false) hok (by simp);have h3:=(hc r hr).1;rw[e] at h3;rw[←h3];exact orRow_left (by rw[h2,hrow _ hrl]) (.inr h1)
theorem closed_beg(hg:Valid g)(hc:FirstClosed g E Fi)(hrow:∀n,n<g.nons→(Fi.getD n []).length=g.terms){n t:Nat}(h:Beg g n t):(Fi.getD n []).getD t false=true:=by
 induction h with
 | term hr e hn=>exact closed_key hg hc hrow hr e hn (.inl rfl)
 | non hr e hn _ ih=>exact closed_key hg hc hrow hr e hn (.inr ⟨rfl,ih⟩)
structure FSet(g:Gram)(E:List Bool)(Fi:List (List Bool)):Prop where
 elen:E.length=g.nons
 flen:Fi.length=g.nons
 row:∀r∈Fi,r.length=g.terms
 nul:∀n,E.getD n false=true↔Nul g n
 beg:∀n t,(Fi.getD n []).getD t false=true↔Beg g n t
theorem FSet.rows(h:FSet g E Fi):∀n,n<g.nons→(Fi.getD n []).length=g.terms:=fun n hn=>by
 have:=gE (show n<Fi.length by rw[h.flen];exact hn);rw[List.getD_eq_getElem?_getD,this];exact h.row _ (List.getElem_mem _)
theorem FSet.list(h:FSet g E Fi){l:List Sym}(hl:∀s∈l,SymOk g.terms g.nons s):(∀t,(ofRow E Fi (List.replicate g.terms false) l).1.getD t false=true↔BegL g l t)∧((ofRow E Fi (List.replicate g.terms false) l).2=true↔NulL g l):=by
 obtain⟨h1,h2⟩:=ofRow_sound (E:=E) (Fi:=Fi) ⟨fun n hn=>(h.nul n).1 hn,fun n t ht=>(h.beg n t).1 ht⟩ l (List.replicate g.terms false);refine⟨fun t=>⟨fun ht=>(h1 t ht).resolve_left zeros_get,fun ht=>?_⟩,h2,fun hn=>ofRow_null _ _ fun s hs=>⟨(hn s hs).1,(h.nul _).2 (hn s hs).2⟩⟩;obtain⟨pre,s,post,rfl,hn,h3⟩:=ht;exact ofRow_beg h.rows (h3.imp id fun h4=>⟨h4.1,(h.beg _ _).2 h4.2⟩) pre _ hl (by simp) fun x hx=>⟨(hn x hx).1,(h.nul _).2 (hn x hx).2⟩
end
theorem make2_spec(F:Frz)(g:Gram)(hg:Valid g){a:Option Addr}{m c:Nat}(hr:Arr tRule F a m c g.rules) :
  Abs.Spec CC 33 [.agg ⟨gramCells g a m c⟩] F [] fun F' v o=>o=[]∧∃is E Fi,v=.pointer (some ⟨is,0,none⟩)∧SetsF F' is g a m c E Fi∧FSet g E Fi:=
 (makeJ_spec F g hg (FSnd g) FSnd.zero (fun E Fi r hm h E' hE'=>h.step hm hE') hr).mono fun F' v o _ ⟨h1,is,E,Fi,h2,h3,h4,h5,h6⟩=>by
  refine⟨h1,is,E,Fi,h2,h3,h5,h6,h3.row,fun n=>⟨h4.1 n,closed_nul h3.closed⟩,fun n t=>⟨h4.2 n t,closed_beg hg h3.closed fun k hk=>?_⟩⟩;have:=gE (show k<Fi.length by rw[h6];exact hk);rw[List.getD_eq_getElem?_getD,this];exact h3.row _ (List.getElem_mem _)
def padF(n:Nat)(ys:List Bool):List Bool:=ys++List.replicate (n-ys.length) false
theorem padF_len{n:Nat}{ys:List Bool}(h:ys.length≤n):(padF n ys).length=n:=by unfold padF;simp;omega
theorem padF_get{n:Nat}{ys:List Bool}{t:Nat}:(padF n ys).getD t false=ys.getD t false:=by
 unfold padF;rw[List.getD_eq_getElem?_getD,List.getD_eq_getElem?_getD,List.getElem?_append];split
 ·rfl
 ·rename_i h;rw[List.getElem?_eq_none (l:=ys) zo,List.getElem?_replicate];split<;>rfl
theorem orTo_pad{xs ys:List Bool}(h:ys.length≤xs.length):orTo ys.length xs (padF xs.length ys)=orRow xs (padF xs.length ys):=by
 rw[←orTo_all (padF_len h).symm];have:∀k,ys.length+k≤xs.length→orTo (ys.length+k) xs (padF xs.length ys)=orTo ys.length xs (padF xs.length ys):=by
  intro k
  induction k with
  | zero=>intro _;rfl
  | succ k ih=>
   intro hk;have hx:=gE (show ys.length+k<xs.length by omega);have hy:(padF xs.length ys)[ys.length+k]?=some false:=by
    unfold padF;rw[List.getElem?_append_right zo,List.getElem?_replicate,if_pos zo]
   rw[show ys.length+(k+1)=ys.length+k+1 by omega,orTo_succ (padF_len h).symm hx hy,ih zo,Bool.or_false];rw[←ih zo];apply List.ext_getElem?;intro i;by_cases hi:i=ys.length+k
   ·subst hi;rw[List.getElem?_set_self (by rw[orTo_len (padF_len h).symm];omega),orTo_at (padF_len h).symm hx]
   ·rw[List.getElem?_set_ne zo]
 have:=this (xs.length-ys.length) zo;rw[show ys.length+(xs.length-ys.length)=xs.length by omega] at this;exact this.symm
theorem union2_spec(F:Frz){it:Nat}{xs ys:List Bool}{b:Option Addr}{m n c d:Nat}(hm:m=xs.length)(hy:Arr tBool F b n d ys)(hlen:ys.length≤xs.length)(hn:n≤1000000) :
  Abs.Spec CC 36 [.slice (some ⟨it,0,none⟩) m c,.slice b n d] F [[(it,.cells false (xs.map cBool.cell))]] fun _ v o=>∃B',o=[B']∧B'=[(it,.cells false ((orRow xs (padF xs.length ys)).map cBool.cell))]∧v=.bool (decide (orRow xs (padF xs.length ys)≠xs)):=by
 have hylen:=hy.len;have hpl:=(padF_len hlen).symm;have hopad:=orTo_pad hlen;have hpat:∀(j:Nat) (y:Bool),ys[j]?=some y→(padF xs.length ys)[j]?=some y:=fun j y h=>by
  unfold padF;rw[List.getElem?_append_left (gS h).1];exact h
 generalize padF xs.length ys=zs at hpl hopad hpat;refine Abs.Spec.fn (n:=28) Tryz.func36 rfl rfl fun own=>?_;refine zC4 ?_;refine AW.range (S:=US) (fun s=>[(5,.bool s.ch)]) (fun s=>[(it,.cells false (s.cur.map cBool.cell))]::own) (fun j s G=>s.cur=orTo j xs zs∧s.ch=decide (s.cur≠xs)) n ⟨xs,false⟩ Z Z Z Z Z Z Z Z Z zo Z Z (fun _=>rfl) (fun _=>rfl) sM oR ⟨(orTo_zero xs zs).symm,by simp⟩ ?_ ?_
 ·intro j s F1 hF1 hj hP;obtain⟨hcur,hch⟩:=hP;have hy1:=hy.mono hF1;obtain⟨x,hx⟩:∃x,xs[j]?=some x:=⟨_,gE zo⟩;have hcl:s.cur.length=xs.length:=by rw[hcur];exact orTo_len hpl
  have hcx:(s.cur.map cBool.cell)[0+j*1]?=some (.bool x):=by rw[Nat.zero_add,Nat.mul_one,List.getElem?_map,hcur,orTo_at hpl hx];rfl
  refine zC4 ?_;refine WT.idxL hT hy1 Z Z Z Z Z Z Z Z Z zo (fun y hyj b1 off ro cs lx hb hp hrel=>?_);obtain rfl:lx=_:=hrel;have hnext:=orTo_succ hpl hx (hpat j y hyj);rw[←hcur] at hnext;have same:(x||y)=x→s.cur.set j (x||y)=s.cur:=by
   intro e;rw[e];apply List.ext_getElem?;intro i;by_cases hi:i=j
   ·subst hi;rw[List.getElem?_set_self zo,hcur,orTo_at hpl hx]
   ·rw[List.getElem?_set_ne zo]
  refine zC4 ?_;refine WT.split 16 Z (fun h=>?_) (fun h=>?_)
  ·refine zC4 ?_;refine WT.idxA (j:=j) (s:=1) hT Z Z Z Z Z Z Z Z Z zo ?_;refine WT.loadAt hT 0 Z Z Z Z Z Z me Z Z hcx ?_;refine zC4 ?_;refine AW.cond Z (fun h2=>?_) (fun h2=>?_)
   ·have h2:x=false:=by simpa using h2
    refine zC4 ?_;refine WT.idxA (j:=j) (s:=1) hT Z Z Z Z Z Z Z Z Z zo ?_;refine WT.storeAt hT 0 0 Z Z Z Z Z Z Z Z Z Z (by simp;omega) Z Z ?_;refine zC4 ?_;refine⟨⟨s.cur.set j true,true⟩,sM,OwnLe.flat ?_,?_,?_⟩
    ·dsimp only;rw[List.map_set,Nat.zero_add,Nat.mul_one];exact List.Perm.refl _
    ·rw[hnext,h,h2];rfl
    ·have:s.cur.set j true≠xs:=by
      intro e;have this:(s.cur.set j true)[j]?=xs[j]?:=by rw[e]
      rw[List.getElem?_set_self zo,hx,h2] at this;cases this
     simp[this]
   ·have h2:x=true:=by simpa using h2
    refine zC4 ?_;refine⟨s,sM,zow,?_,hch⟩;rw[hnext,same (by rw[h2];rfl)]
  ·refine zC4 ?_;refine AW.cond Z (fun h2=>(by cases h2)) (fun h2=>?_);refine zC4 ?_;refine⟨s,sM,zow,?_,hch⟩;rw[hnext,same (by rw[h];simp)]
 ·intro s F1 hF1 hP;obtain⟨hcur,hch⟩:=hP;rw[show n=ys.length by omega,hopad] at hcur;refine zC4 ?_;refine AW.ret ⟨_,[_],⟨_,_,rfl,rfl,rfl⟩,List.Sublist.refl _,_,rfl,by rw[←hcur],?_⟩;rw[←hcur,←hch];rfl
theorem unionSelf_spec(F:Frz){it:Nat}{xs:List Bool}{m c d:Nat}(hm:m=xs.length)(hn:m≤1000000) :
  Abs.Spec CC 36 [.slice (some ⟨it,0,none⟩) m c,.slice (some ⟨it,0,none⟩) m d] F [[(it,.cells false (xs.map cBool.cell))]] fun _ v o=>∃B',o=[B']∧B'=[(it,.cells false (xs.map cBool.cell))]∧v=.bool false:=by
 refine Abs.Spec.fn (n:=28) Tryz.func36 rfl rfl fun own=>?_;refine zC4 ?_;refine AW.range (S:=Unit) (fun s=>[(5,.bool false)]) (fun s=>[(it,.cells false (xs.map cBool.cell))]::own) (fun j s G=>True) m () Z Z Z Z Z Z Z Z Z zo Z Z (fun _=>rfl) (fun _=>rfl) sM oR trivial ?_ ?_
 ·intro j s F1 hF1 hj hP;obtain⟨x,hx⟩:∃x,xs[j]?=some x:=⟨_,gE zo⟩;have hcx:(xs.map cBool.cell)[0+j*1]?=some (.bool x):=by rw[Nat.zero_add,Nat.mul_one,List.getElem?_map,hx];rfl
  refine zC4 ?_;refine WT.idxA (j:=j) (s:=1) hT Z Z Z Z Z Z Z Z Z zo ?_;refine WT.loadAt hT 0 Z Z Z Z Z Z me Z Z hcx ?_;refine zC4 ?_;refine WT.split 16 Z (fun h=>?_) (fun h=>?_)
  ·refine zC4 ?_;refine WT.idxA (j:=j) (s:=1) hT Z Z Z Z Z Z Z Z Z zo ?_;refine WT.loadAt hT 0 Z Z Z Z Z Z me Z Z hcx ?_;refine zC4 ?_;refine AW.cond Z (fun h2=>?_) (fun h2=>?_)
   ·have h2:x=false:=by simpa using h2
    rw[h2] at h;cases h
   ·refine zC4 ?_;exact⟨(),sM,zow,trivial⟩
  ·refine zC4 ?_;refine AW.cond Z (fun h2=>(by cases h2)) (fun h2=>?_);refine zC4 ?_;exact⟨(),sM,zow,trivial⟩
 ·intro s F1 hF1 hP;refine zC4 ?_;exact AW.ret ⟨_,[_],⟨_,_,rfl,rfl,rfl⟩,List.Sublist.refl _,_,rfl,rfl,rfl⟩
theorem reachedUse_spec(F:Frz)(x:Nat)(s:Value)(hs:∃a m c,s=.slice a m c) :
  Abs.Spec CC 84 [.agg ⟨[.int .i64 x,s]⟩] F [] fun _ v o=>o=[]∧v=.bool true:=by
 obtain⟨a,m,c,rfl⟩:=hs;refine Abs.Spec.fn (n:=3) Tryz.func84 rfl rfl fun own=>?_;refine AW.seq (AW.reg ?_);refine WT.boxT Z Z Z Z Z Z (fun i3 hi3=>?_);refine zC4 ?_;exact AW.ret ⟨_,[],⟨_,_,rfl,rfl,rfl⟩,zsb,rfl,rfl⟩
structure RcS where
 O:List Bool
 again:Bool
def ClosR(O:List Bool)(r:Rule):Prop:=O.getD r.left false=true→∀s∈r.right,s.term=false→O.getD s.n false=true
structure ReachF(g:Gram)(O:List Bool):Prop where
 len:O.length=g.nons
 at_:∀n,O.getD n false=true↔Rch g n
theorem set_true{l:List Bool}{n:Nat}(h:n<l.length):(l.set n true).getD n false=true:=by rw[List.getD_eq_getElem?_getD,List.getElem?_set_self h];rfl
theorem set_keep{l:List Bool}{n t:Nat}(h:l.getD t false=true):(l.set n true).getD t false=true:=by
 rw[List.getD_eq_getElem?_getD] at h ⊢;rw[List.getElem?_set];split
 ·split
  ·rfl
  ·rename_i h1 h2;subst h1;rw[List.getElem?_eq_none zo] at h;exact h
 ·exact h
theorem reached_spec(F:Frz)(g:Gram)(hg:Valid g){a:Option Addr}{m c:Nat}(hr:Arr tRule F a m c g.rules) :
  Abs.Spec CC 83 [.agg ⟨gramCells g a m c⟩,.func (.func 84) ⟨[]⟩ ⟨[]⟩] F [] fun F' v o=>o=[]∧∃a' c' O,v=.slice a' g.nons c'∧Arr tBool F' a' g.nons c' O∧ReachF g O:=by
 unfold gramCells;have hrlen:=hr.len;have hgr:=hg.range.rules;have hgn:=hg.range.nons;have hgs:=hg.range.start;refine Abs.Spec.fn (n:=63) Tryz.func83 rfl rfl fun own=>?_;refine AW.seq (AW.reg ?_);refine WT.boxT Z Z Z Z Z Z (fun i2 hi2=>?_);refine zC4 ?_;refine WT.makeT (l:=g.nons) hT Z Z Z Z Z Z Z Z Z Z Z Z zom (fun ie hie=>?_);rw[cap_eq];refine zC4 ?_;have hgst:g.start<g.nons:=hgs;refine WT.idxA (j:=g.start) (s:=1) hT Z Z Z Z Z Z Z Z Z hgst ?_;refine WT.storeAt hT 0 0 Z Z Z Z Z Z Z Z Z Z (by simp;omega) Z Z ?_;refine zC4 ?_;refine AW.block ?_
 refine AW.loopR (S:=RcS) (fun t=>[(6,.bool t.again)]) (fun t=>[(ie,.cells false (t.O.map cBool.cell))]::[(i2,.cells false [.int .i64 g.terms,.int .i64 g.nons,.int .i64 g.start,.slice a m c])]::own)
  (fun t G=>t.O.length=g.nons∧(∀n,t.O.getD n false=true→Rch g n)∧t.O.getD g.start false=true∧(t.again=false→∀r∈g.rules,ClosR t.O r)) (fun t=>if t.again=true then 1+(g.nons-ones t.O) else 0) ⟨(List.replicate g.nons false).set g.start true,true⟩
  sM (OwnLe.flat ?_) ⟨by simp,fun n hn=>?_,set_true (by simp;exact hgst),fun h=>(by cases h)⟩ ?_
 ·dsimp only;rw[List.map_set,List.map_replicate,Nat.zero_add,Nat.mul_one];exact List.Perm.refl _
 ·rcases set_get hn with rfl | h3
  ·exact .start
  ·exact absurd h3 zeros_get
 intro t F2 hF2 hP;obtain⟨hl,hsnd,hst,hcl⟩:=hP;have hr2:=hr.mono hF2;refine zC4 ?_;refine AW.cond Z (fun h=>?_) (fun h=>?_)
 ·refine zC4 ?_;refine AW.block ?_;refine zC4 ?_;refine AW.range (S:=RcS) (fun t=>[(6,.bool t.again)]) (fun t=>[(ie,.cells false (t.O.map cBool.cell))]::[(i2,.cells false [.int .i64 g.terms,.int .i64 g.nons,.int .i64 g.start,.slice a m c])]::own)
   (fun k u G=>u.O.length=g.nons∧(∀n,u.O.getD n false=true→Rch g n)∧u.O.getD g.start false=true∧(u.again=true→ones t.O<ones u.O)∧(u.again=false→u.O=t.O∧∀r∈g.rules.take k,ClosR t.O r)) m ⟨t.O,false⟩
   Z Z Z Z Z Z Z Z Z zo rfl rfl (fun _=>rfl) (fun _=>rfl) sM oR ⟨hl,hsnd,hst,fun h=>(by cases h),fun _=>⟨rfl,by simp⟩⟩ ?_ ?_
  ·intro k u F3 hF3 hk hP;obtain⟨hl,hsnd,hst,hT2,hC⟩:=hP;have hr3:=hr2.mono hF3;refine zC4 ?_;refine WT.idxL hT hr3 Z Z Z Z Z Z Z Z Z zo (fun r hrk b1 off ro cs lx hb hp1 hrel=>?_);obtain⟨b2,n2,d2,rfl,hr4⟩:=hrel;obtain⟨hrl,hrr,hrs⟩:=hg.right r (gM hrk);have hr4l:=hr4.len;have htk:g.rules.take (k+1)=g.rules.take k++[r]:=by rw[List.take_add_one,hrk];rfl
   obtain⟨e0,he0⟩:∃e0,u.O[r.left]?=some e0:=⟨_,gE (by rw[hl];exact hrl)⟩;have hgE:u.O.getD r.left false=e0:=by rw[List.getD_eq_getElem?_getD,he0];rfl
   have hE0c:(u.O.map cBool.cell)[0+r.left*1]?=some (.bool e0):=by rw[Nat.zero_add,Nat.mul_one,List.getElem?_map,he0];rfl
   refine zC4 ?_;refine WT.allocT hT Z Z Z Z Z Z (fun i6 hi6=>?_);refine zC4 ?_;refine WT.idxA (j:=r.left) (s:=1) hT Z Z Z Z Z Z Z Z Z hrl ?_;refine WT.loadAt hT 1 Z Z Z Z Z Z me Z Z hE0c ?_;refine zC4 ?_;refine WT.split 32 Z (fun h3=>?_) (fun h3=>?_)
   ·have h3:e0=false:=by simpa using h3
    refine zC4 ?_;refine AW.cond Z (fun _=>?_) (fun h=>(by cases h));refine AW.exit ?_;refine⟨u,sM,zow,hl,hsnd,hst,hT2,fun hag=>?_⟩;obtain⟨q1,q2⟩:=hC hag;refine⟨q1,fun r' hr'=>?_⟩;rw[htk] at hr';rcases List.mem_append.1 hr' with h4 | h4
    ·exact q2 r' h4
    ·rw[List.mem_singleton.1 h4];intro h5;rw[←q1,hgE,h3] at h5;cases h5
   ·have h3:e0=true:=by simpa using h3
    refine zC4 ?_;refine WT.callC (first:=[]) (args:=[.agg ⟨[.int .i64 r.left,.slice b2 n2 d2]⟩]) (capt:=[]) Tryz.func84 Z Z Z Z Z Z Z Z (reachedUse_spec F3 r.left _ ⟨_,_,_,rfl⟩) (fun v hv=>?_)
    subst hv;refine zC4 ?_;refine AW.cond Z (fun h=>(by cases h)) (fun _=>?_);refine zC4 ?_;refine AW.range (S:=RcS) (fun t=>[(6,.bool t.again)]) (fun t=>[(i6,.cells false [.int .i64 r.left,.slice b2 n2 d2])]::[(ie,.cells false (t.O.map cBool.cell))]::[(i2,.cells false [.int .i64 g.terms,.int .i64 g.nons,.int .i64 g.start,.slice a m c])]::own)
     (fun i v G=>v.O.length=g.nons∧(∀n,v.O.getD n false=true→Rch g n)∧v.O.getD g.start false=true∧(v.again=true→ones t.O<ones v.O)∧(v.again=false→u.again=false∧v.O=u.O∧∀s∈r.right.take i,s.term=false→u.O.getD s.n false=true)) n2 u
     Z Z Z Z Z Z Z Z Z zo rfl rfl (fun _=>rfl) (fun _=>rfl) sM oR ⟨hl,hsnd,hst,hT2,fun h=>⟨h,rfl,by simp⟩⟩ ?_ ?_
    ·intro i v F4 hF4 hi hP;obtain⟨hvl,hvsnd,hvst,hvT,hvC⟩:=hP;have hr5:=hr4.mono hF4;refine zC4 ?_;refine WT.idxL hT hr5 Z Z Z Z Z Z Z Z Z zo (fun y hyi b5 off5 ro5 cs5 lx5 hb5 hp5 hrel5=>?_);obtain rfl:lx5=_:=hrel5;obtain⟨yt,yn⟩:=y;have hyo:=hrs _ (gM hyi);have hytk:r.right.take (i+1)=r.right.take i++[⟨yt,yn⟩]:=by rw[List.take_add_one,hyi];rfl
     refine zC4 ?_;refine WT.allocT hT Z Z Z Z Z Z (fun i8 hi8=>?_);refine zC4 ?_;refine WT.split 48 Z (fun h4=>?_) (fun h4=>?_)
     ·have h4:yt=false:=by simpa using h4
      subst h4;have hyn:yn<g.nons:=hyo;obtain⟨e1,he1⟩:∃e1,v.O[yn]?=some e1:=⟨_,gE (by rw[hvl];exact hyn)⟩;have hgE1:v.O.getD yn false=e1:=by rw[List.getD_eq_getElem?_getD,he1];rfl
      have hE1c:(v.O.map cBool.cell)[0+yn*1]?=some (.bool e1):=by rw[Nat.zero_add,Nat.mul_one,List.getElem?_map,he1];rfl
      refine zC4 ?_;refine WT.idxA (j:=yn) (s:=1) hT Z Z Z Z Z Z Z Z Z hyn ?_;refine WT.loadAt hT 2 Z Z Z Z Z Z me Z Z hE1c ?_;refine zC4 ?_;refine AW.cond Z (fun h5=>?_) (fun h5=>?_)
      ·have h5:e1=false:=by simpa using h5
       subst h5;refine zC4 ?_;refine WT.idxA (j:=yn) (s:=1) hT Z Z Z Z Z Z Z Z Z hyn ?_;refine WT.storeAt hT 2 0 Z Z Z Z Z Z Z Z Z Z (by simp;omega) Z Z ?_;refine zC4 ?_;have h1s:=ones_set he1;refine⟨⟨v.O.set yn true,true⟩,sM,?_,by simp[hvl],fun n hn=>?_,set_keep hvst,fun _=>?_,fun h=>(by cases h)⟩
       ·refine OwnLe.skip _ (OwnLe.flat ?_);dsimp only;rw[List.map_set,Nat.zero_add,Nat.mul_one];exact List.Perm.refl _
       ·rcases set_get hn with rfl | h6
        ·exact .more (gM hrk) (hsnd _ (by rw[hgE,h3])) (gM hyi)
        ·exact hvsnd n h6
       ·show ones t.O<ones (v.O.set yn true);rw[h1s];cases hva:v.again with
        | true=>have:=hvT hva;omega
        | false=>
         obtain⟨q1,q2,_⟩:=hvC hva;rw[q2,(hC q1).1];omega
      ·have h5:e1=true:=by simpa using h5
       refine zC4 ?_;refine⟨v,sM,zow,hvl,hvsnd,hvst,hvT,fun hag=>?_⟩;obtain⟨q1,q2,q3⟩:=hvC hag;refine⟨q1,q2,fun s hs hs2=>?_⟩;rw[hytk] at hs;rcases List.mem_append.1 hs with h6 | h6
       ·exact q3 s h6 hs2
       ·rw[List.mem_singleton.1 h6,←q2,hgE1,h5]
     ·have h4:yt=true:=by simpa using h4
      refine zC4 ?_;refine AW.cond Z (fun h=>(by cases h)) (fun _=>?_);refine zC4 ?_;refine⟨v,sM,zow,hvl,hvsnd,hvst,hvT,fun hag=>?_⟩;obtain⟨q1,q2,q3⟩:=hvC hag;refine⟨q1,q2,fun s hs hs2=>?_⟩;rw[hytk] at hs;rcases List.mem_append.1 hs with h6 | h6
      ·exact q3 s h6 hs2
      ·rw[List.mem_singleton.1 h6,h4] at hs2;cases hs2
    ·intro v F4 hF4 hP;obtain⟨hvl,hvsnd,hvst,hvT,hvC⟩:=hP;rw[List.take_of_length_le zo] at hvC;refine⟨v,sM,zow,hvl,hvsnd,hvst,hvT,fun hag=>?_⟩;obtain⟨q1,q2,q3⟩:=hvC hag;obtain⟨q4,q5⟩:=hC q1;refine⟨by rw[q2,q4],fun r' hr'=>?_⟩;rw[htk] at hr';rcases List.mem_append.1 hr' with h6 | h6
     ·exact q5 r' h6
     ·rw[List.mem_singleton.1 h6];intro _ s hs hs2;rw[←q4];exact q3 s hs hs2
  ·intro u F3 hF3 hP;obtain⟨hul,husnd,hust,hT2,hC⟩:=hP;rw[List.take_of_length_le zo] at hC;refine⟨u,?_,sM,zow,hul,husnd,hust,fun hag=>?_⟩
   ·have h1:=ones_le u.O;have h2:=ones_le t.O;rw[h,if_pos rfl];split
    ·rename_i h4;have:=hT2 h4;omega
    ·omega
   ·obtain⟨q1,q2⟩:=hC hag;rw[q1];exact q2
 ·refine AW.exit ?_;refine AW.freezeAll 0 Z Z (fun F3 hF3 hB3=>?_);refine zC4 ?_;have hEa:=arr_of_cells (K:=cBool) (R:=tBool) (F:=F3) (id:=ie) (row:=t.O) (c:=if t.O.length=0 then 0 else 1) (ro:=false) rfl (fun _ _=>rfl) rfl (hB3 ie _ (by simp));rw[hl] at hEa;refine AW.ret ⟨_,[],⟨_,_,rfl,rfl,rfl⟩,zsb,rfl,_,_,t.O,rfl,hEa,hl,fun n=>⟨hsnd n,fun hn=>?_⟩⟩
  induction hn with
  | start=>exact hst
  | more h4 _ h6 ih=>exact hcl h _ h4 ih _ h6 rfl
theorem reachedAll_spec(F:Frz)(g:Gram)(hg:Valid g){a:Option Addr}{m c:Nat}(hr:Arr tRule F a m c g.rules) :
  Abs.Spec CC 62 [.agg ⟨gramCells g a m c⟩] F [] fun F' v o=>o=[]∧∃a' c' O,v=.tuple ⟨[.slice a' g.nons c',.int .i64 0]⟩∧Arr tBool F' a' g.nons c' O∧ReachF g O:=by
 unfold gramCells;refine Abs.Spec.fn (n:=12) Tryz.func62 rfl rfl fun own=>?_;refine AW.seq (AW.reg ?_);refine WT.boxT Z Z Z Z Z Z (fun i1 hi1=>?_);refine zC4 ?_;have hck:=check_spec F g hg.range hr;unfold gramCells at hck;refine WT.callV Tryz.func32 Z Z Z Z Z Z hck (fun v hv=>?_);rw[hg.no_err] at hv;subst hv;refine zC4 ?_;refine AW.cond Z (fun h=>(by simp at h)) (fun _=>?_);refine zC4 ?_;have hre:=reached_spec F g hg hr;unfold gramCells at hre;refine WT.callF0 Tryz.func83 Z Z Z Z Z Z hre (fun F3 v hF3 hv=>?_);obtain⟨a8,c8,O,rfl,hO,hR⟩:=hv;refine zC4 ?_
 exact AW.ret ⟨_,[],⟨_,_,rfl,⟨_,_,rfl,rfl,rfl⟩,rfl⟩,zsb,rfl,a8,c8,O,rfl,hO,hR⟩
def strB(l:List UInt8):ByteArray:=⟨l.toArray⟩
theorem strB_inj{a b:List UInt8}(h:strB a=strB b):a=b:=by
 have:=congrArg (fun x:ByteArray=>x.data.toList) h;exact this
theorem strB_app(a b:List UInt8):strB a++strB b=strB (a++b):=by
 apply ByteArray.ext;rw[ByteArray.data_append];unfold strB;simp
theorem strB_size(a:List UInt8):(strB a).size=a.length:=by unfold strB ByteArray.size;simp
def isDig(x:UInt8):Prop:=48≤x.toNat∧x.toNat≤57
def itoaB(n:Nat):List UInt8:=if n<10 then [UInt8.ofNat (48+n)] else [UInt8.ofNat (48+n / 10),UInt8.ofNat (48+n % 10)]
theorem itoaB_dig{n:Nat}(h:n<100):∀x∈itoaB n,isDig x:=by
 intro x hx;unfold itoaB at hx;unfold isDig;split at hx
 ·rw[List.mem_singleton.1 hx,UInt8.toNat_ofNat'];omega
 ·rcases List.mem_cons.1 hx with rfl | hx
  ·rw[UInt8.toNat_ofNat'];omega
  ·rw[List.mem_singleton.1 hx,UInt8.toNat_ofNat'];omega
theorem u8_inj{a b:Nat}(ha:a<256)(hb:b<256)(h:UInt8.ofNat a=UInt8.ofNat b):a=b:=by
 have:=congrArg UInt8.toNat h;rw[UInt8.toNat_ofNat',UInt8.toNat_ofNat'] at this;omega
theorem itoaB_inj{n m:Nat}(hn:n<100)(hm:m<100)(h:itoaB n=itoaB m):n=m:=by
 unfold itoaB at h;split at h<;>split at h
 ·have:=u8_inj zo zo (List.head_eq_of_cons_eq h);omega
 ·exact absurd (congrArg List.length h) (by simp)
 ·exact absurd (congrArg List.length h) (by simp)
 ·have h1:=u8_inj zo zo (List.head_eq_of_cons_eq h);have h2:=u8_inj zo zo (List.head_eq_of_cons_eq (List.tail_eq_of_cons_eq h));omega
theorem split_dig:∀{a b r s:List UInt8} {c d:UInt8},(∀x∈a,isDig x)→(∀x∈b,isDig x)→¬isDig c→¬isDig d→a++c::r=b++d::s→a=b∧c=d∧r=s
 | [],[],r,s,c,d,_,_,_,_,h=>by
  exact⟨rfl,List.head_eq_of_cons_eq h,List.tail_eq_of_cons_eq h⟩
 | [],y::b,r,s,c,d,_,hb,hc,_,h=>by
  have:=List.head_eq_of_cons_eq h;exact absurd (this▸hb y me) hc
 | x::a,[],r,s,c,d,ha,_,_,hd,h=>by
  have:=List.head_eq_of_cons_eq h;exact absurd (this▸ha x me) hd
 | x::a,y::b,r,s,c,d,ha,hb,hc,hd,h=>by
  have h1:=List.head_eq_of_cons_eq h;have h2:=List.tail_eq_of_cons_eq h;obtain⟨h3,h4,h5⟩:=split_dig (fun z hz=>ha z (List.mem_cons_of_mem _ hz)) (fun z hz=>hb z (List.mem_cons_of_mem _ hz)) hc hd h2;exact⟨by rw[h1,h3],h4,h5⟩
theorem no_dig{c:UInt8}(h:c=46∨c=32∨c=59):¬isDig c:=by
 rcases h with rfl | rfl | rfl<;>(unfold isDig;decide)
def keyIt(x:Lr):List UInt8:=itoaB x.rule++46::itoaB x.dot
def keyLk(x:Look):List UInt8:=keyIt x.item++32::itoaB x.set
def nameF{σ:Type}(key:σ→List UInt8):List σ→List UInt8
 | []=>[]
 | x::l=>key x++59::nameF key l
theorem nameF_snoc{σ:Type}(key:σ→List UInt8)(x:σ):∀l:List σ,nameF key (l++[x])=nameF key l++(key x++[59])
 | []=>by simp[nameF]
 | y::l=>by simp[nameF,nameF_snoc key x l]
theorem nameF_inj{σ:Type}{key:σ→List UInt8}{P:σ→Prop}(h:∀x y r s,P x→P y→key x++59::r=key y++59::s→x=y∧r=s):∀{l m:List σ},(∀x∈l,P x)→(∀x∈m,P x)→nameF key l=nameF key m→l=m
 | [],[],_,_,_=>rfl
 | [],y::m,_,_,e=>by exact absurd (congrArg List.length e) (by simp[nameF])
 | x::l,[],_,_,e=>by exact absurd (congrArg List.length e) (by simp[nameF])
 | x::l,y::m,hl,hm,e=>by
  obtain⟨h1,h2⟩:=h x y _ _ (hl x me) (hm y me) e;rw[h1,nameF_inj h (fun z hz=>hl z (List.mem_cons_of_mem _ hz)) (fun z hz=>hm z (List.mem_cons_of_mem _ hz)) h2]
theorem keyIt_inj(x y:Lr)(c:UInt8)(r s:List UInt8)(hc:c=46∨c=32∨c=59)(hx:x.rule<100∧x.dot<100)(hy:y.rule<100∧y.dot<100)(h:keyIt x++c::r=keyIt y++c::s):x=y∧r=s:=by
 unfold keyIt at h;rw[List.append_assoc,List.append_assoc] at h;have h:itoaB x.rule++46::(itoaB x.dot++c::r)=itoaB y.rule++46::(itoaB y.dot++c::s):=h;obtain⟨h1,_,h2⟩:=split_dig (itoaB_dig hx.1) (itoaB_dig hy.1) (no_dig (.inl rfl)) (no_dig (.inl rfl)) h;obtain⟨h3,_,h4⟩:=split_dig (itoaB_dig hx.2) (itoaB_dig hy.2) (no_dig hc) (no_dig hc) h2;have e1:=itoaB_inj hx.1 hy.1 h1;have e2:=itoaB_inj hx.2 hy.2 h3;obtain⟨a,b⟩:=x;obtain⟨a',b'⟩:=y;simp only at e1 e2;subst e1 e2;exact⟨rfl,h4⟩
theorem nameI_inj{l m:List Lr}(hl:∀x∈l,x.rule<100∧x.dot<100)(hm:∀x∈m,x.rule<100∧x.dot<100)(h:nameF keyIt l=nameF keyIt m):l=m:=
 nameF_inj (P:=fun x:Lr=>x.rule<100∧x.dot<100) (fun x y r s hx hy e=>keyIt_inj x y 59 r s (.inr (.inr rfl)) hx hy e) hl hm h
theorem nameK_inj{l m:List Look}(hl:∀x∈l,(x.item.rule<100∧x.item.dot<100)∧x.set<100)(hm:∀x∈m,(x.item.rule<100∧x.item.dot<100)∧x.set<100)(h:nameF keyLk l=nameF keyLk m):l=m:=
 nameF_inj (P:=fun x:Look=>(x.item.rule<100∧x.item.dot<100)∧x.set<100) (fun x y r s hx hy e=>by
  unfold keyLk at e;rw[List.append_assoc,List.append_assoc] at e;have e:keyIt x.item++32::(itoaB x.set++59::r)=keyIt y.item++32::(itoaB y.set++59::s):=e;obtain⟨h1,h2⟩:=keyIt_inj x.item y.item 32 _ _ (.inr (.inl rfl)) hx.1 hy.1 e;obtain⟨h3,_,h4⟩:=split_dig (itoaB_dig hx.2) (itoaB_dig hy.2) (no_dig (.inr (.inr rfl))) (no_dig (.inr (.inr rfl))) h2;have h5:=itoaB_inj hx.2 hy.2 h3;obtain⟨a,b⟩:=x;obtain⟨a',b'⟩:=y;simp only at h1 h5;subst h1 h5;exact⟨rfl,h4⟩) hl hm h
theorem bytes_beq(x y:ByteArray):(x==y)=true↔x=y:=by
 constructor
 ·intro h;obtain⟨x⟩:=x;obtain⟨y⟩:=y;have:(x==y)=true:=h;congr 1;exact eq_of_beq this
 ·rintro rfl;obtain⟨x⟩:=x;show (x==x)=true;exact beq_self_eq_true x
theorem und_str:CC.und 9=some .string:=und_string hT (r:=⟨9,.string,1,16,.string ByteArray.empty⟩) rfl rfl
def keyStr:KeyTy CC 9 (List UInt8) where
 key:=fun l=>.string (strB l)
 ok:=fun l=>by
  unfold keyOk;simp only[und_str];rfl
 eq:=fun a b=>by
  have h:eqA CC 8 9 (.string (strB a)) (.string (strB b))=some (strB a==strB b):=by
   unfold eqA;simp only[und_str];rfl
  by_cases e:a=b
  ·subst e;exact .inl ⟨rfl,by rw[h,(bytes_beq _ _).2 rfl]⟩
  ·have e2:(strB a==strB b)=false:=by
    cases hb:(strB a==strB b) with
    | false=>rfl
    | true=>exact absurd (strB_inj ((bytes_beq _ _).1 hb)) e
   exact .inr ⟨e,by rw[h,e2]⟩
end Go.Proofs.D
set_option linter.unusedVariables false
set_option maxRecDepth 20000
set_option maxHeartbeats 0
open Go Go.Abs Go.Proofs Go.Proofs.D
namespace Go.Abs
section
variable {C:Ctx}{T:RT}{n:Nat}{k:Kno}{F:Frz}{own:Own}{ops rest:List Oper}{o:Oper}{Q:Kno→Frz→Own→List Rec→Prop}
theorem WT.sliceTab(hT:rowsOk C T=true){t:TypeId}{xo lo hi:Operand}{s:ByteArray}{j m:Nat}{kd kd2:IntKind}{r:Row}(a b:Nat→Nat)(f:Nat→List UInt8)(hop:o.op=.slice t xo (some lo) (some hi) none)(hw:wantK ops k o=some true){dst:Nat}(hdst:o.dst=some dst)(hn:Nat.blt dst n=true)
  (hx:evK C k xo=some (.string s)) (hl:evK C k lo=some (.int kd (a j:Nat))) (hh:evK C k hi=some (.int kd2 (b j:Nat))) (hr:rowOf T t=some r) (hd:r.d=.string) (hj:j<m)
  (htab:((List.range m).all fun j=>Nat.ble (a j) (b j)&&Nat.ble (b j) s.size&&((s.extract (a j) (b j)).data.toList==f j))=true)
  (h:WT C n ops rest ((dst,.string ⟨(f j).toArray⟩)::k) F own (fun k2 F2 own2 rs=>Q k2 F2 own2 (⟨F,own,F,own,[]⟩::rs))):WT C n ops (o::rest) k F own Q:=by
 have h1:=List.all_eq_true.1 htab j (List.mem_range.2 hj);simp only[Bool.and_eq_true,beq_iff_eq] at h1;obtain⟨⟨h2,h3⟩,h4⟩:=h1;have h5:s.extract (a j) (b j)=⟨(f j).toArray⟩:=by
  apply ByteArray.ext;rw[←h4]
 refine WT.still (l:=[]) hw (by rw[hop];simp only[looksK,hx]) (fun h0 _=>?_) (by rw[hdst,putK_some hn];exact h);rw[hop];have h6:optA (evK C k) none=some none:=rfl;simp only[opA,hx,optA,hl,hh,sliceA,und_string hT hr hd,boundA,Option.map_some];rw[if_pos (Int.natCast_nonneg _),if_pos (Int.natCast_nonneg _),Int.toNat_natCast,Int.toNat_natCast];simp only[h2,h3,Bool.and_self,cond_true,h5,Option.map_some]
theorem WT.addStr{t ty:TypeId}{xo yo:Operand}{a b:ByteArray}(hop:o.op=.binOp .add t xo yo ty)(hw:wantK ops k o=some true){dst:Nat}(hdst:o.dst=some dst)(hn:Nat.blt dst n=true)
  (hx:evK C k xo=some (.string a)) (hy:evK C k yo=some (.string b)) (hs:a.size+b.size≤9223372036854775807)
  (h:WT C n ops rest ((dst,.string (a++b))::k) F own (fun k2 F2 own2 rs=>Q k2 F2 own2 (⟨F,own,F,own,[]⟩::rs))):WT C n ops (o::rest) k F own Q:=by
 refine WT.still (l:=[]) hw (by rw[hop];simp only[looksK,hx,hy];rfl) (fun h0 _=>?_) (by rw[hdst,putK_some hn];exact h);rw[hop];have h2:Nat.ble (a.size+b.size) 9223372036854775807=true:=Nat.ble_eq_true_of_le hs;simp only[opA,hx,hy,binA,stringBinA,h2,cond_true,Option.map_some]
end
end Go.Abs
namespace Go.Proofs.D
theorem nosh:BinOp.mul≠.shl∧BinOp.mul≠.shr:=⟨fun h=>(by cases h),fun h=>(by cases h)⟩
theorem mulr2{i:Nat}(h:2*i≤9223372036854775807):intBinA .mul .i64 (i:Int) 2=some (.int .i64 ((2*i:Nat):Int)):=by
 simp only[intBinA];rw[wrap64 ⟨by omega,by omega⟩];congr 2;omega
theorem small_spec(F:Frz)(i:Nat)(hi:i<100):Abs.Spec CC 107 [.int .i64 i] F [] fun _ v o=>o=[]∧v=.string (strB (itoaB i)):=by
 refine Abs.Spec.fn (n:=15) Tryz.func107 rfl rfl fun own=>?_;refine zC4 ?_;refine AW.cond Z (fun h=>?_) (fun h=>?_)
 ·have h:i<10:=by simp at h;omega
  refine zC4 ?_;refine WT.sliceTab hT (j:=i) (m:=10) (fun j=>j) (fun j=>j+1) itoaB Z Z Z Z Z Z Z Z Z h (by decide +kernel) ?_;refine zC4 ?_;exact AW.ret ⟨_,[],⟨_,_,rfl,rfl,rfl⟩,zsb,rfl,rfl⟩
 ·have h:¬i<10:=by simp at h;omega
  refine zC4 ?_;refine WT.binV (v:=.int .i64 ((2*i:Nat):Int)) Z Z Z Z Z Z nosh (mulr2 zo) ?_;refine zC4 ?_;refine WT.binV (v:=.int .i64 ((2*i:Nat):Int)) Z Z Z Z Z Z nosh (mulr2 zo) ?_;refine zC4 ?_;refine WT.sliceTab hT (j:=i) (m:=100) (fun j=>2*j) (fun j=>2*j+2) (fun j=>[UInt8.ofNat (48+j / 10),UInt8.ofNat (48+j % 10)]) Z Z Z Z Z Z Z Z Z hi (by decide +kernel) ?_;refine zC4 ?_;refine AW.ret ⟨_,[],⟨_,_,rfl,rfl,rfl⟩,zsb,rfl,?_⟩;unfold itoaB;rw[if_neg h];rfl
theorem formatInt_spec(F:Frz)(i:Nat)(hi:i<100):Abs.Spec CC 103 [.int .i64 i,.int .i64 10] F [] fun _ v o=>o=[]∧v=.string (strB (itoaB i)):=by
 refine Abs.Spec.fn (n:=54) Tryz.func103 rfl rfl fun own=>?_;refine zC4 ?_;refine AW.cond Z (fun _=>?_) (fun h=>(by cases h));refine zC4 ?_;refine AW.cond Z (fun _=>?_) (fun h=>(by simp at h;omega));refine zC4 ?_;refine WT.callV Tryz.func107 Z Z Z Z Z Z (small_spec _ i hi) (fun v hv=>?_);subst hv;refine zC4 ?_;exact AW.ret ⟨_,[],⟨_,_,rfl,rfl,rfl⟩,zsb,rfl,rfl⟩
theorem itoa0_spec(F:Frz)(i:Nat)(hi:i<100):Abs.Spec CC 88 [.int .i64 i] F [] fun _ v o=>o=[]∧v=.string (strB (itoaB i)):=by
 refine Abs.Spec.fn (n:=5) Tryz.func88 rfl rfl fun own=>?_;refine zC4 ?_;refine WT.callV Tryz.func103 Z Z Z Z Z Z (formatInt_spec _ i hi) (fun v hv=>?_);subst hv;refine zC4 ?_;exact AW.ret ⟨_,[],⟨_,_,rfl,rfl,rfl⟩,zsb,rfl,rfl⟩
theorem itoa_spec(F:Frz)(i:Nat)(hi:i<100):Abs.Spec CC 68 [.int .i64 i] F [] fun _ v o=>o=[]∧v=.string (strB (itoaB i)):=by
 refine Abs.Spec.fn (n:=5) Tryz.func68 rfl rfl fun own=>?_;refine zC4 ?_;refine WT.callV Tryz.func88 Z Z Z Z Z Z (itoa0_spec _ i hi) (fun v hv=>?_);subst hv;refine zC4 ?_;exact AW.ret ⟨_,[],⟨_,_,rfl,rfl,rfl⟩,zsb,rfl,rfl⟩
theorem itoaB_len(i:Nat):(itoaB i).length≤2:=by unfold itoaB;split<;>simp
theorem keyIt_spec(F:Frz)(x:Lr)(hx:x.rule<100∧x.dot<100):Abs.Spec CC 67 [.agg ⟨[.int .i64 x.rule,.int .i64 x.dot]⟩] F [] fun _ v o=>o=[]∧v=.string (strB (keyIt x)):=by
 have h1:=itoaB_len x.rule;have h2:=itoaB_len x.dot;refine Abs.Spec.fn (n:=11) Tryz.func67 rfl rfl fun own=>?_;refine AW.seq (AW.reg ?_);refine WT.boxT Z Z Z Z Z Z (fun i1 hi1=>?_);refine zC4 ?_;refine AW.draw (ps:=[(3,6),(5,2)]) Z Z ?_;refine zC4 ?_;refine WT.callV Tryz.func68 Z Z Z Z Z Z (itoa_spec _ x.rule hx.1) (fun v hv=>?_);subst hv;refine WT.addStr Z Z Z Z Z Z (by rw[strB_size];show _+1≤_;omega) ?_;refine zC4 ?_;refine WT.callV Tryz.func68 Z Z Z Z Z Z (itoa_spec _ x.dot hx.2) (fun v hv=>?_);subst hv
 refine WT.addStr Z Z Z Z Z Z (by rw[show (strB (itoaB x.rule)++{ data:=#[46] }:ByteArray)=strB (itoaB x.rule)++strB [46] from rfl,strB_app,strB_size,strB_size,List.length_append];show _+1+_≤_;omega) ?_;refine zC4 ?_;refine⟨zrC,?_⟩;refine AW.ret ⟨_,[],⟨_,_,rfl,rfl,rfl⟩,zsb,rfl,?_⟩;show Value.string (strB (itoaB x.rule)++strB [46]++strB (itoaB x.dot))=_;rw[strB_app,strB_app,List.append_assoc];rfl
theorem keyIt_len(x:Lr):(keyIt x).length≤5:=by
 have h1:=itoaB_len x.rule;have h2:=itoaB_len x.dot;unfold keyIt;simp only[List.length_append,List.length_cons];omega
def LrOk(g:Gram)(x:Lr):Prop:=x.rule≤g.rules.length∧x.dot≤(if x.rule=g.rules.length then 1 else ((g.rules[x.rule]?).map (·.right.length)).getD 0)
theorem Clos.ok{g:Gram}{l:List Lr}(hl:∀x∈l,LrOk g x){x:Lr}(h:Clos g l x):LrOk g x:=by
 induction h with
 | base h=>exact hl _ h
 | more _ _ h _ _=>exact⟨Nat.le_of_lt (gS h).1,Nat.zero_le _⟩
theorem lrClose_spec(F:Frz)(g:Gram)(hg:Valid g){a:Option Addr}{m c:Nat}(hr:Arr tRule F a m c g.rules){b:Option Addr}{n d:Nat}{l:List Lr}(hl:Arr tLr F b n d l)(hn:n≤1000)(hok:∀x∈l,LrOk g x) :
  Abs.Spec CC 86 [.agg ⟨gramCells g a m c⟩,.slice b n d] F [] fun F' v o=>o=[]∧∃a' m' c' zs,v=.tuple ⟨[.slice a' m' c',.int .i64 0]⟩∧Arr tLr F' a' m' c' zs∧m'≤n+m∧Strict zs∧∀z,z∈zs↔Clos g l z:=by
 have hml:=hr.len;have hll:=hl.len;have hgl:=hg.range.rules;have hg4:∀r∈g.rules,r.right.length≤100:=fun r h=>by have:=(hg.right r h).2.1;omega
 unfold gramCells;refine Abs.Spec.fn (n:=50) Tryz.func86 rfl rfl fun own=>?_;refine AW.seq (AW.reg ?_);refine WT.boxT Z Z Z Z Z Z (fun i2 hi2=>?_);refine zB4 ?_;refine WT.callV Tryz.func32 Z Z Z Z Z Z (check_spec _ g hg.range hr) (fun v hv=>?_);rw[hg.no_err] at hv;subst hv;refine zB4 ?_;refine AW.cond Z (fun h=>(by cases h)) (fun _=>?_);refine zB4 ?_;refine AW.range (S:=Unit) (fun _=>[]) (fun _=>_) (fun j _ G=>True) n () Z Z Z Z Z Z Z Z Z zo Z Z (fun _=>rfl) (fun _=>rfl) sM oR trivial ?_ ?_
 ·intro j _ F1 hF1 hj _;have hr1:=hr.mono hF1;have hl1:=hl.mono hF1;refine zB4 ?_;refine WT.idxL hT hl1 Z Z Z Z Z Z Z Z Z zo (fun x hxj b1 off ro cs lx hb hp1 hrel=>?_);obtain rfl:lx=_:=hrel;obtain⟨hx1,hx2⟩:=hok x (gM hxj);refine zB4 ?_;refine WT.allocT hT Z Z Z Z Z Z (fun i8 hi8=>?_);refine zB4 ?_;refine AW.draw (ps:=[(18,22)]) Z Z ?_;refine zB4 ?_;refine WT.split 23 Z (fun h=>(by simp at h;omega)) (fun _=>?_);refine WT.split 31 Z (fun h=>(by simp at h;omega)) (fun _=>?_);refine zB4 ?_;refine WT.split 36 Z (fun h=>(by simp at h;omega)) (fun _=>?_)
  refine WT.callV Tryz.func63 Z Z Z Z Z Z (lrRight_spec _ g hg4 hr1 zo x.rule zo) (fun v hv=>?_);obtain⟨rb,rn,rd,rfl,hrn⟩:=hv;rw[←hml] at hx2;rw[←hrn] at hx2;refine zB4 ?_;refine⟨zrC,?_⟩;refine AW.cond Z (fun h=>(by simp at h;omega)) (fun _=>?_);refine zB4 ?_;exact⟨(),sM,zow,trivial⟩
 ·intro _ F1 hF1 _;have hr1:=hr.mono hF1;have hl1:=hl.mono hF1;refine zB4 ?_;refine WT.callF0 Tryz.func71 Z Z Z Z Z Z (closure_spec _ g hg4 hr1 zo hl1 hn (fun x hx=>(hok x hx).1)) (fun F2 v hF2 hv=>?_);obtain⟨a8,m8,c8,zs,rfl,hz,hzm,hst,hmem⟩:=hv;refine zB4 ?_;exact AW.ret ⟨_,[],⟨_,_,rfl,⟨_,_,rfl,rfl,rfl⟩,rfl⟩,zsb,rfl,a8,m8,c8,zs,rfl,hz,hzm,hst,hmem⟩
structure ISt where
 xs:List Lr
 a:Option Addr
 c:Nat
 B:List (Nat×Blk)
structure SyS where
 a:Option Addr
 m:Nat
 c:Nat
 B:List (Nat×Blk)
theorem symsL_T{g:Gram}{j:Nat}(h:j<g.terms):(symsL g).take (j+1)=(symsL g).take j++[⟨true,j⟩]:=by
 have:(symsL g)[j]?=some ⟨true,j⟩:=symsL_at (y:=⟨true,j⟩) h;rw[List.take_add_one,this];rfl
theorem symsL_N{g:Gram}{j:Nat}(h:j<g.nons):(symsL g).take (g.terms+j+1)=(symsL g).take (g.terms+j)++[⟨false,j⟩]:=by
 have:(symsL g)[j+g.terms]?=some ⟨false,j⟩:=symsL_at (y:=⟨false,j⟩) h;rw[Nat.add_comm] at this;rw[List.take_add_one,this];rfl
theorem symbols_spec(F:Frz)(g:Gram)(hg:Valid g){a:Option Addr}{m c:Nat} :
  Abs.Spec CC 65 [.agg ⟨gramCells g a m c⟩] F [] fun F' v o=>o=[]∧∃a' n' c',v=.slice a' n' c'∧Arr tSym F' a' n' c' (symsL g):=by
 have hgt:=hg.range.terms;have hgn:=hg.range.nons;unfold gramCells;refine Abs.Spec.fn (n:=29) Tryz.func65 rfl rfl fun own=>?_;refine AW.seq (AW.reg ?_);refine WT.boxT Z Z Z Z Z Z (fun i1 hi1=>?_);refine zC4 ?_;refine AW.range (S:=SyS) (fun s=>[(3,.slice s.a s.m s.c)]) (fun s=>s.B::[(i1,.cells false [.int .i64 g.terms,.int .i64 g.nons,.int .i64 g.start,.slice a m c])]::own) (fun j s G=>Bld tSym G s.a s.m s.c s.B ((symsL g).take j)) g.terms ⟨none,0,0,[]⟩
  Z Z Z Z Z Z Z Z Z zo rfl rfl (fun _=>rfl) (fun _=>rfl) sM (OwnLe.flat (List.Perm.refl _)) (Bld.nil_ _ _) ?_ ?_
 ·intro j s F1 hF1 hj hb;have hbl:=hb.len;rw[List.length_take,symsL_len] at hbl;refine zC4 ?_;refine WT.callV Tryz.func85 Z Z Z Z Z Z (gT_spec _ _) (fun v hv=>?_);subst hv;refine WT.buildT hT Z Z Z Z Z Z Z Z Z Z Z Z Z Z (fun i9 hi9=>?_);refine WT.appendT (R:=tSym) (ys:=[(⟨true,j⟩:Sym)]) hT 1 hb Z (fun _=>rfl) Z Z Z Z Z Z Z Z Z Z Z (fun h0 s0=>news_own hT s0 0 Z Z Z Z) (Cells.single (R:=tSym) (x:=⟨true,j⟩) rfl) Z (by decide) zom (fun a3 c3 B3 hB3=>?_);refine zC4 ?_;exact⟨⟨a3,s.m+1,c3,B3⟩,sM,zow,by show Bld tSym _ _ _ _ _ ((symsL g).take (j+1));rw[symsL_T hj];exact hB3⟩
 ·intro s F1 hF1 hb;refine zC4 ?_;refine AW.range (S:=SyS) (fun s=>[(3,.slice s.a s.m s.c)]) (fun s=>s.B::[(i1,.cells false [.int .i64 g.terms,.int .i64 g.nons,.int .i64 g.start,.slice a m c])]::own) (fun j s G=>Bld tSym G s.a s.m s.c s.B ((symsL g).take (g.terms+j))) g.nons ⟨s.a,s.m,s.c,s.B⟩
   Z Z Z Z Z Z Z Z Z zo rfl rfl (fun _=>rfl) (fun _=>rfl) sM oR hb ?_ ?_
  ·intro j s F2 hF2 hj hb;have hbl:=hb.len;rw[List.length_take,symsL_len] at hbl;refine zC4 ?_;refine WT.callV Tryz.func24 Z Z Z Z Z Z (gN_spec _ _) (fun v hv=>?_);subst hv;refine WT.buildT hT Z Z Z Z Z Z Z Z Z Z Z Z Z Z (fun i9 hi9=>?_);refine WT.appendT (R:=tSym) (ys:=[(⟨false,j⟩:Sym)]) hT 1 hb Z (fun _=>rfl) Z Z Z Z Z Z Z Z Z Z Z (fun h0 s0=>news_own hT s0 0 Z Z Z Z) (Cells.single (R:=tSym) (x:=⟨false,j⟩) rfl) Z (by decide) zom (fun a3 c3 B3 hB3=>?_);refine zC4 ?_;exact⟨⟨a3,s.m+1,c3,B3⟩,sM,zow,by show Bld tSym _ _ _ _ _ ((symsL g).take (g.terms+j+1));rw[symsL_N hj];exact hB3⟩
  ·intro s F2 hF2 hb;rw[List.take_of_length_le (by rw[symsL_len];exact Nat.le_refl _)] at hb;refine AW.freezeAll 0 Z Z (fun F3 hF3 hB3=>?_);refine zC4 ?_;exact AW.ret ⟨_,[],⟨_,_,rfl,rfl,rfl⟩,zsb,rfl,_,_,_,rfl,hb.frozen hF3 hB3⟩
noncomputable def nextI(g:Gram)(st:List Lr)(y:Sym):Option (List Lr):=if kern g st y=[] then none else some (closL g (kern g st y))
theorem kern_take{g:Gram}{st:List Lr}{y:Sym}{j:Nat}{x:Lr}(h:st[j]?=some x):kern g (st.take (j+1)) y=kern g (st.take j) y++(if afterL g x=some y then [⟨x.rule,x.dot+1⟩] else []):=by
 unfold kern;rw[List.take_add_one,h,List.filterMap_append];congr 1;simp only[Option.toList_some,List.filterMap_cons,List.filterMap_nil];by_cases e:afterL g x=some y
 ·rw[if_pos e,if_pos e]
 ·rw[if_neg e,if_neg e]
structure NxS where
 a:Option Addr
 m:Nat
 c:Nat
 B:List (Nat×Blk)
 l:List Lr
theorem nextI_spec(F:Frz)(g:Gram)(hg:Valid g){ig:Nat}{ro:Bool}{a:Option Addr}{m c:Nat}(hi:F ig=some (.cells ro (gramCells g a m c)))(hr:Arr tRule F a m c g.rules){b:Option Addr}{n d:Nat}{st:List Lr}(hst:Arr tLr F b n d st)(hn:n≤1000)(hok:∀x∈st,OkLr g x)(y:Sym)(hy:SymOk g.terms g.nons y) :
  Abs.Spec CC 72 [.slice b n d,.agg ⟨[.bool y.term,.int .i64 y.n]⟩,.pointer (some ⟨ig,0,none⟩)] F [] fun F' v o=>o=[]∧∃a' n' c' z s,v=.tuple ⟨[.slice a' n' c',.bool z]⟩∧Arr tLr F' a' n' c' s∧nextI g st y=if z=true then some s else none:=by
 have hgr:=hg.range.rules;have hrl:=hr.len;have hsl:=hst.len;have hg4:∀r∈g.rules,r.right.length≤100:=fun r h=>by have:=(hg.right r h).2.1;omega
 unfold gramCells at hi;obtain⟨yt,yn⟩:=y;refine Abs.Spec.fn (n:=46) Tryz.func72 rfl rfl fun own=>?_;refine AW.seq (AW.reg ?_);refine WT.boxT Z Z Z Z Z Z (fun i4 hi4=>?_);refine zC4 ?_;refine AW.range (S:=NxS) (fun s=>[(7,.slice s.a s.m s.c)]) (fun s=>s.B::[(i4,.cells false [.bool yt,.int .i64 yn])]::own) (fun j s G=>Bld tLr G s.a s.m s.c s.B s.l∧s.l=kern g (st.take j) ⟨yt,yn⟩∧s.m≤j) n ⟨none,0,0,[],[]⟩
  Z Z Z Z Z Z Z Z Z zo rfl rfl (fun _=>rfl) (fun _=>rfl) sM (OwnLe.flat (List.Perm.refl _)) ⟨Bld.nil_ _ _,rfl,Nat.le_refl _⟩ ?_ ?_
 ·intro j s F1 hF1 hj hP;obtain⟨hb,hsk,hsm⟩:=hP;have hst1:=hst.mono hF1;have hr1:=hr.mono hF1;have hi1:=hF1 _ _ hi;refine zC4 ?_;refine WT.idxL hT hst1 Z Z Z Z Z Z Z Z Z zo (fun x hxj b1 off ro1 cs lx hb1 hp1 hrel=>?_);obtain rfl:lx=_:=hrel;have hxo:=hok x (gM hxj);have hkt:=kern_take (g:=g) (y:=⟨yt,yn⟩) hxj;refine zC4 ?_;refine WT.allocT hT Z Z Z Z Z Z (fun i9 hi9=>?_);refine zC4 ?_;have haf:=lrAfter_spec F1 g hg4 hr1 zo x (by have:=hxo.1;omega);unfold gramCells at haf;refine WT.callV Tryz.func69 Z Z Z Z Z Z haf (fun v hv=>?_);obtain⟨z,bo,rfl,hay,han⟩:=hv;obtain⟨zt,zn⟩:=z;refine zC4 ?_
  refine WT.allocT hT Z Z Z Z Z Z (fun i10 hi10=>?_);refine zC4 ?_;have hbl:=hb.len;refine WT.split 25 Z (fun hbo=>?_) (fun hbo=>?_)
  ·have hay:=hay hbo;refine zC4 ?_;refine AW.cond Z (fun h=>?_) (fun h=>?_)
   ·have e:(⟨zt,zn⟩:Sym)=⟨yt,yn⟩:=by
     simp only[Bool.and_true,Bool.and_eq_true,beq_iff_eq] at h;obtain⟨h1,h2⟩:=h;subst h1;congr 1;omega
    rw[e] at hay;have hxd:x.dot≤100:=by
     have:=hxo.2;have h2:(rightL g x.rule).length≤100:=by
      unfold rightL;split
      ·simp
      ·cases hq:g.rules[x.rule]? with
       | none=>simp
       | some r=>exact hg4 r (gM hq)
     omega
    refine zC4 ?_;refine WT.buildT hT Z Z Z Z Z Z Z Z Z Z Z Z Z Z (fun i37 hi37=>?_);refine WT.appendT (R:=tLr) (ys:=[(⟨x.rule,x.dot+1⟩:Lr)]) hT 3 hb Z (fun _=>rfl) Z Z Z Z Z Z Z Z Z Z Z (fun h0 s0=>news_own hT s0 0 Z Z Z Z) (Cells.single (R:=tLr) (x:=⟨x.rule,x.dot+1⟩) rfl) Z (by decide) zom (fun a3 c3 B3 hB3=>?_);refine zC4 ?_;refine⟨⟨a3,s.m+1,c3,B3,s.l++[⟨x.rule,x.dot+1⟩]⟩,sM,zow,hB3,?_,by dsimp only;omega⟩;show s.l++_=_;rw[hkt,if_pos hay,hsk]
   ·have hno:¬afterL g x=some ⟨yt,yn⟩:=fun e=>by
     rw[hay] at e;have e:=Option.some.inj e;simp only[Sym.mk.injEq] at e;rw[e.1,e.2] at h;simp at h
    refine zC4 ?_;refine⟨s,sM,zow,hb,?_,by omega⟩;rw[hkt,if_neg hno,List.append_nil];exact hsk
  ·have han:=han hbo;have hno:¬afterL g x=some ⟨yt,yn⟩:=fun e=>by rw[han] at e;cases e
   refine zC4 ?_;refine AW.cond Z (fun h=>(by cases h)) (fun _=>?_);refine zC4 ?_;refine⟨s,sM,zow,hb,?_,by omega⟩;rw[hkt,if_neg hno,List.append_nil];exact hsk
 ·intro s F1 hF1 hP;obtain⟨hb,hsk,hsm⟩:=hP;rw[List.take_of_length_le zo] at hsk;have hbl:=hb.len;have hi1:=hF1 _ _ hi;refine AW.freezeAll 0 Z Z (fun F2 hF2 hB2=>?_);have hx:=hb.frozen hF2 hB2;have hi2:=hF2 _ _ hi1;have hkok:∀z∈s.l,z.rule≤g.rules.length:=fun z hz=>by rw[hsk] at hz;exact(kern_ok z hz).1.1
  refine zC4 ?_;have hcs:=closure_spec F2 g hg4 ((hr.mono hF1).mono hF2) zo hx zo hkok;unfold gramCells at hcs;refine WT.callF0 Tryz.func71 Z Z Z Z Z Z hcs (fun F3 v hF3 hv=>?_);obtain⟨a8,m8,c8,zs,rfl,hz,hzm,hstr,hmem⟩:=hv;refine zC4 ?_;refine AW.ret ⟨_,[],⟨_,_,rfl,⟨_,_,rfl,rfl,rfl⟩,rfl⟩,zsb,rfl,a8,m8,c8,_,zs,rfl,hz,?_⟩;unfold nextI;by_cases e:kern g st ⟨yt,yn⟩=[]
  ·rw[if_pos e,if_neg];rw[hsk,e] at hbl;have:s.m=0:=hbl;simp[this]
  ·rw[if_neg e,if_pos]
   ·congr 1;refine(closL_eq (fun z hz=>(kern_ok z hz).1) hstr fun z=>?_).symm;rw[hmem,hsk]
   ·have:0<s.m:=by
     rw[hbl,hsk];exact List.length_pos_iff.2 e
    exact decide_eq_true zo
structure CpS where
 j:Nat
 a:Option Addr
 c:Nat
 B:List (Nat×Blk)
theorem CountVal.some{T:Nat→Nat}{c:Int}(h:CountVal T c)(hc:c≠0):∃d,1≤T d:=by
 rcases h with ⟨n,⟨D,hD⟩,h2⟩ | ⟨h,_⟩
 ·refine⟨D,?_⟩;rw[hD D (Nat.le_refl _)];rcases Nat.eq_zero_or_pos n with e | e
  ·subst e;exact absurd h2 (by simpa using hc)
  ·exact e
 ·exact h 1
theorem boolIdx_spec(F:Frz){a:Option Addr}{m c:Nat}{xs:List Bool}(hx:Arr tBool F a m c xs)(hm:m≤1000000)(y:Bool) :
  Abs.Spec CC 38 [.slice a m c,.bool y] F [] fun _ v o=>o=[]∧v=.int .i64 (idxOf (fun x=>decide (y=x)) xs):=by
 refine Abs.Spec.fn (n:=19) Tryz.func38 rfl rfl fun own=>?_;have hxlen:=hx.len;refine zB4 ?_;refine AW.range (S:=Unit) (fun _=>[]) (fun _=>_) (fun j _ G=>∀z∈xs.take j,decide (y=z)=false) m () Z Z Z Z Z Z Z Z Z zo Z Z (fun _=>rfl) (fun _=>rfl) sM oR (by simp) ?_ ?_
 ·intro j _ F1 hF1 hj hP;have hx1:=hx.mono hF1;refine zB4 ?_;refine WT.idxL hT hx1 Z Z Z Z Z Z Z Z Z zo (fun x hxj b1 off ro cs lx hb hp1 hrel=>?_);obtain rfl:lx=_:=hrel;refine zB4 ?_;refine AW.cond Z (fun hc=>?_) (fun hc=>?_)
  ·refine zB4 ?_;refine AW.ret ⟨_,[],⟨_,_,rfl,rfl,rfl⟩,zsb,rfl,?_⟩;rw[idxOf_at hxj (by simp at hc;simp;exact hc) hP];rfl
  ·refine zB4 ?_;exact⟨(),sM,zow,take_all hxj hP (by simp at hc;simp;exact hc)⟩
 ·intro _ F1 hF1 hP;rw[List.take_of_length_le zo] at hP;refine zB4 ?_;refine AW.ret ⟨_,[],⟨_,_,rfl,rfl,rfl⟩,zsb,rfl,?_⟩;rw[idxOf_none hP];rfl
theorem boolContains_spec(F:Frz){a:Option Addr}{m c:Nat}{xs:List Bool}(hx:Arr tBool F a m c xs)(hm:m≤1000000)(y:Bool) :
  Abs.Spec CC 19 [.slice a m c,.bool y] F [] fun _ v o=>o=[]∧v=.bool (decide (y∈xs)):=by
 refine Abs.Spec.fn (n:=9) Tryz.func19 rfl rfl fun own=>?_;refine zB4 ?_;refine WT.callV Tryz.func38 Z Z Z Z Z Z (boolIdx_spec _ hx hm y) (fun v hv=>?_);subst hv;refine zB4 ?_;refine AW.ret ⟨_,[],⟨_,_,rfl,rfl,rfl⟩,zsb,rfl,?_⟩;have:decide (idxOf (fun x=>decide (y=x)) xs≥0)=decide (y∈xs):=by
  rw[idxOf_nonneg,Bool.eq_iff_iff];simp
 rw[←this];rfl
end Go.Proofs.D
set_option linter.unusedVariables false
set_option maxRecDepth 20000
set_option maxHeartbeats 0
open Go Go.Abs Go.Proofs Go.Proofs.D
namespace Go.Abs
section
variable {C:Ctx}{T:RT}{n:Nat}{k:Kno}{F:Frz}{own:Own}{ops rest:List Oper}{o:Oper}{Q:Kno→Frz→Own→List Rec→Prop}{args':List Value}
theorem WT.callCF0{f:FuncId}{fn:Func}{fo:Operand}{as_:Array Operand}{ts:Array TypeId}{args args' first capt:List Value}{P:Frz→Value→Prop}(hf:C.func f=some fn)(hb:fn.body.isSome=true)(hop:o.op=.call ⟨.value fo,as_,ts⟩)
  (hw:wantK ops k o=some true) {dst:Nat} (hdst:o.dst=some dst) (hn:Nat.blt dst n=true) (hfo:evK C k fo=some (.func (.func f) ⟨first⟩ ⟨capt⟩)) (hv:vals (evK C k) as_.toList=some args) (hargs:first++args++capt=args') (spec:Spec C f args' F [] fun F' v o=>o=[]∧P F' v)
  (h:∀F' v,Frz.le F F'→P F' v→WT C n ops rest ((dst,v)::k) F' own (fun k2 F2 own2 rs=>Q k2 F2 own2 (⟨F,own,F',own,[]⟩::rs))) :
  WT C n ops (o::rest) k F own Q:=by
 subst hargs;refine WT.step (l:=[]) (by rw[hop];rfl) fun e h' hk hs=>?_;obtain⟨v,h1,F1,oout,⟨m,hd⟩,hF,hs1,rfl,hp⟩:=spec own h' hs;refine⟨v,h1,F1,own,⟨m,fun N hN=>?_⟩,hF,hs1,by rw[hdst,putK_some hn];exact h F1 v hF hp⟩;unfold stepA;rw[wantK_ok hk hw];have:opA C (evK C k) h' o.op=some (.call f (first++args++capt)):=by
  rw[hop];simp only[opA,hfo,hv,callA_func hf hb]
 simp only[opA_mono hk.eval this,hd N hN]
end
end Go.Abs
namespace Go.Proofs.D
def tBool:Ty Bool where
 size:=1
 rel:=fun _ l x=>l=[.bool x]
 len:=fun _ _ _ h=>by subst h;rfl
 one:=fun _ _ _ h=>by subst h;rfl
 mono:=fun _ _ _ _ _ h=>h
def Chain(to:Nat):List Sym→Nat→List Key→Prop
 | [],i,ks=>ks=[]∧i=to
 | s::l,i,ks=>∃q ks',ks=q::ks'∧q.sym=s∧q.frm=i∧Chain to l q.to ks'
structure PackOk(g:Gram)(S:List Key)(k:Key)(p:NPack)(kp:KPack):Prop where
 num:p=numPack S kp
 rule:∃r,g.rules[kp.rule]?=some r∧r.left=k.sym.n∧Chain k.to r.right k.frm kp.kids
 ins:∀q∈kp.kids,q∈S
structure NodeOk(g:Gram)(w:List Nat)(S:List Key)(k:Key)(x:Node):Prop where
 key:x.key=k
 term:k.sym.term=true→k.to=k.frm+1∧k.to≤w.length∧w[k.frm]?=some k.sym.n∧x.packs=[]
 non:k.sym.term=false→x.packs≠[]
 pack:∀p∈x.packs,∃kp,PackOk g S k p kp
 sorted:x.packs.Pairwise fun x y=>cmpNPack x y<0
end Go.Proofs.D
set_option linter.unusedVariables false
set_option maxRecDepth 20000
set_option maxHeartbeats 0
open Go Go.Abs Go.Proofs Go.Proofs.D
namespace Go.Abs
section
variable {C:Ctx}{T:RT}{n:Nat}{k:Kno}{F:Frz}{own:Own}{ops rest:List Oper}{o:Oper}{Q:Kno→Frz→Own→List Rec→Prop}{α:Type}{R:Ty α}
theorem WT.vldE(hT:rowsOk C T=true)(p:Nat){t:TypeId}{ao:Operand}{a:Option Addr}{m c j b:Nat}{B:List (Nat×Blk)}{xs:List α}{x:α}{r:Row}(hv:Vec R F a m c B xs)(ha:a=some ⟨b,0,none⟩)(hj:xs[j]?=some x)(hop:o.op=.load t ao)(hw:wantK ops k o=some true){dst:Nat}(hdst:o.dst=some dst)(hn:Nat.blt dst n=true)
  (hao:evK C k ao=some (.pointer (some ⟨b,j*R.size,none⟩))) (hp:own[p]?=some B) (hr:rowOf T t=some r) (hd:r.d.agg=false) (hs:R.size=1)
  (h:∀v,R.rel F [v] x→WT C n ops rest ((dst,v)::k) F own (fun k2 F2 own2 rs=>Q k2 F2 own2 (⟨F,own,F,own,[b]⟩::rs))):WT C n ops (o::rest) k F own Q:=by
 obtain⟨i,cs,h1,rfl,h3,h4⟩:=hv.at_ hj;rw[ha] at h1;injection h1 with h1;injection h1 with h1;subst h1;obtain⟨l,h5,h6⟩:=h3.at j x hj;have hl:=R.len _ _ _ h6;rw[show R.size=1 from hs] at hao h5 hl
 match l,hl,h5,h6 with
 | [v],_,h5,h6=>exact WT.loadOwn p hop hw hao hp me (readA_at hT hr hd (partL_one h5 rfl)) (by rw[hdst,putK_some hn];exact h v h6)
end
end Go.Abs
namespace Go.Proofs.D
theorem addAll_snoc{α:Type}[DecidableEq α]:∀(os:List (Option α)) (sts:List α) (o:Option α),addAll sts (os++[o])=((addOne (addAll sts os).1 o).1,(addAll sts os).2++[(addOne (addAll sts os).1 o).2])
 | [],sts,o=>rfl
 | x::os,sts,o=>by
  have ih:=addAll_snoc os (addOne sts x).1 o;show ((addAll (addOne sts x).1 (os++[o])).1,(addOne sts x).2::(addAll (addOne sts x).1 (os++[o])).2)=_;rw[ih];rfl
theorem addAll_more{α:Type}[DecidableEq α](sts:List α)(a:List (Option α)):∀(b:List (Option α)),(addAll sts a).1.length≤(addAll sts (a++b)).1.length:=by
 intro b
 induction a generalizing sts with
 | nil=>
  obtain⟨⟨ex,h⟩,_⟩:=addAll_ok b sts;show sts.length≤(addAll sts b).1.length;rw[h,List.length_append];omega
 | cons o a ih=>exact ih (addOne sts o).1
def idxD{α:Type}[DecidableEq α](s:α)(S:List α):Nat:=S.idxOf s
theorem idxD_old{α:Type}[DecidableEq α]{s:α}{S T:List α}(h:s∈S):idxD s (S++T)=idxD s S:=by
 unfold idxD;rw[List.idxOf_append,if_pos h]
theorem idxD_new{α:Type}[DecidableEq α]{s:α}{S:List α}(h:s∉S):idxD s (S++[s])=S.length:=by
 unfold idxD;rw[List.idxOf_append,if_neg h];simp
def MapOk{σ:Type}[DecidableEq σ](key:σ→List UInt8)(P:List σ→Prop)(es:Ents (List UInt8))(S:List (List σ)):Prop:=∀s,P s→Abs.look es (nameF key s)=if s∈S then some (.int .i64 (idxD s S:Nat)) else none
theorem MapOk.add{σ:Type}[DecidableEq σ]{key:σ→List UInt8}{P:List σ→Prop}{es:Ents (List UInt8)}{S:List (List σ)}(h:MapOk key P es S)(hinj:∀s s',P s→P s'→nameF key s=nameF key s'→s=s'){s:List σ}(hs:P s)(hn:s∉S) :
  MapOk key P (mset es (nameF key s) (.int .i64 (S.length:Nat))) (S++[s]):=by
 intro s' hs';rw[look_mset];by_cases e:s'=s
 ·subst e;rw[if_pos rfl,if_pos (List.mem_append_right _ (List.mem_singleton_self _))];rw[idxD_new hn]
 ·rw[if_neg (fun e2=>e (hinj s' s hs' hs e2)),h s' hs'];by_cases hm:s'∈S
  ·rw[if_pos hm,if_pos (List.mem_append_left _ hm)];rw[idxD_old hm]
  ·rw[if_neg hm,if_neg];intro h2;rcases List.mem_append.1 h2 with h2 | h2
   ·exact hm h2
   ·exact e (List.mem_singleton.1 h2)
theorem MapOk.one{σ:Type}[DecidableEq σ]{key:σ→List UInt8}{P:List σ→Prop}(hinj:∀s s',P s→P s'→nameF key s=nameF key s'→s=s'){s:List σ}(hs:P s):MapOk key P (mset [] (nameF key s) (.int .i64 0)) [s]:=
 MapOk.add (S:=[]) (es:=[]) (fun s' _=>by simp[Abs.look]) hinj hs (by simp)
theorem numF_at{α:Type}[DecidableEq α]{most f i:Nat}{step:α→List (Option α)}{sts:List α}(rows:List (List Int))(_:Unit){st:α}(h:sts[i]?=some st) :
  numF most step (f+1) i sts rows=if (addAll sts (step st)).1.length≤most then numF most step f (i+1) (addAll sts (step st)).1 (rows++[(addAll sts (step st)).2]) else none:=by
 conv=>lhs;unfold numF
 rw[h]
theorem shE8{p:Prop} (h:p:=by
 subst hv;refine WT.addStr Z Z Z Z Z Z (by rw[strB_size];show _+1≤_;omega) ?_;refine WT.addStr Z Z Z Z Z Z (by rw[show (strB (key x)++{ data:=#[59] }:ByteArray)=strB (key x++[59]) from strB_app _ [59],strB_size,strB_size,hP,List.length_append];show _+(_+1)≤_;omega) ?_;refine WT.know (v':=.string (strB (s++(key x++[59])))) 18 Z (by show Value.string (strB s++(strB (key x)++strB [59]))=_;rw[strB_app,strB_app]) ?_;refine zB4 ?_;refine⟨s++(key x++[59]),sM,zow,?_⟩;show _=nameF key (l.take (j+1));rw[List.take_add_one,hxj,Option.toList_some,nameF_snoc,hP]):p:=h
theorem nameI_spec(F:Frz){b:Option Addr}{n d:Nat}{l:List Lr}(hl:Arr tLr F b n d l)(hn:n≤1000){i6:Nat}{ro:Bool}{fk:Nat}{fnk:Func}(hgk:CC.func fk=some fnk)(hbk:fnk.body.isSome=true)(hi6:F i6=some (.cells ro [.func (.func fk) ⟨[]⟩ ⟨[]⟩]))
  (key:Lr→List UInt8) (hlen:∀x∈l,(key x).length≤20) (hkey:∀x∈l,∀G,Frz.le F G→Abs.Spec CC fk [.agg ⟨[.int .i64 x.rule,.int .i64 x.dot]⟩] G [] fun _ v o=>o=[]∧v=.string (strB (key x))) :
  Abs.Spec CC 89 [.slice b n d,.pointer (some ⟨i6,0,none⟩)] F [] fun _ v o=>o=[]∧v=.string (strB (nameF key l)):=by
 have hll:=hl.len;have htot:∀j,(nameF key (l.take j)).length≤21*j:=by
  intro j
  induction j with
  | zero=>simp[nameF]
  | succ j ih=>
   rw[List.take_add_one];cases hx:l[j]? with
   | none=>simp;omega
   | some x=>
    rw[Option.toList_some,nameF_snoc,List.length_append,List.length_append,List.length_singleton];have:=hlen x (gM hx);omega
 refine Abs.Spec.fn (n:=21) Tryz.func89 rfl rfl fun own=>?_;refine zC4 ?_;refine AW.range (S:=List UInt8) (fun s=>[(4,.string (strB s))]) (fun _=>own) (fun j s G=>s=nameF key (l.take j)) n [] Z Z Z Z Z Z Z Z Z zo Z Z (fun _=>rfl) (fun _=>rfl) sM oR Z ?_ ?_
 ·intro j s F1 hF1 hj hP;have hl1:=hl.mono hF1;have hi1:=hF1 _ _ hi6;have ht:=htot j;refine zB4 ?_;refine WT.idxL hT hl1 Z Z Z Z Z Z Z Z Z zo (fun x hxj b1 off ro1 cs lx hb1 hp1 hrel=>?_);obtain rfl:lx=_:=hrel;have hxm:=gM hxj;have hxl:=hlen x hxm;refine zB4 ?_;refine WT.allocT hT Z Z Z Z Z Z (fun i9 hi9=>?_);refine zB4 ?_;refine WT.callC (first:=[]) (args:=[.agg ⟨[.int .i64 x.rule,.int .i64 x.dot]⟩]) (capt:=[]) hgk hbk Z Z Z Z Z Z Z (hkey x hxm F1 hF1) (fun v hv=>?_)
  exact shE8
 ·intro s F1 hF1 hP;rw[List.take_of_length_le zo] at hP;refine zB4 ?_;exact AW.ret ⟨_,[],⟨_,_,rfl,rfl,rfl⟩,zsb,rfl,by rw[hP];rfl⟩
structure NmOI where
 i:Nat
 sts:List (List Lr)
 rows:List (List Int)
 sa:Option Addr
 sn:Nat
 sc:Nat
 SB:List (Nat×Blk)
 ta:Option Addr
 tn:Nat
 tc:Nat
 TB:List (Nat×Blk)
 es:Ents (List UInt8)
structure NmRI where
 sts:List (List Lr)
 row:List Int
 sa:Option Addr
 sn:Nat
 sc:Nat
 SB:List (Nat×Blk)
 ra:Option Addr
 rn:Nat
 rc:Nat
 RB:List (Nat×Blk)
 es:Ents (List UInt8)
theorem shIKnumber_spec{p:Prop} (h:p:=by
 have hgt:=hg.range.terms;have hgn:=hg.range.nons;have hl0:=h0.len;unfold gramCells;refine Abs.Spec.fn (n:=93) zzIK2 rfl rfl fun own=>?_;refine AW.seq (AW.reg ?_);refine WT.boxT Z Z Z Z Z Z (fun i4 hi4=>?_);refine WT.boxT Z Z Z Z Z Z (fun i6 hi6=>?_);refine zB4 ?_;refine WT.freezeAll 0 Z Z (fun F0 hF0 hB0=>?_);have hi6:=hB0 i6 _ me;have h01:=h0.mono hF0;refine WT.buildT hT Z Z Z Z Z Z Z Z Z Z Z Z Z Z (fun i26 hi26=>?_);refine zB4 ?_;refine WT.makeMap Z Z Z Z (fun im him=>?_);refine zB4 ?_
 refine WT.callC (first:=[]) (args:=[.slice b n d]) (capt:=[.pointer (some ⟨i6,0,none⟩)]) zzIK3 Z Z Z Z Z Z Z Z (zzIK4 F0 h01 (hl0▸(hPl _ hP0).1) hgk hbk hi6 key (fun x hx=>hlen x ((hPl _ hP0).2 x hx)) (fun x hx G hG=>hkey x ((hPl _ hP0).2 x hx) G (hF0.trans hG))) (fun v hv=>?_)
 subst hv;refine WT.mapIns keyStr hT 0 0 (m:=[]) (key:=nameF key st0) Z Z Z Z Z Z Z Z Z Z Z Z ?_;refine zB4 ?_;refine AW.block ?_;refine AW.loopR (S:=zzIK0) (fun s=>[(15,.int .i64 (s.i:Nat)),(12,.slice s.sa s.sn s.sc),(14,.slice s.ta s.tn s.tc)]) (fun s=>s.TB::[(im,.map (entsV keyStr s.es))]::s.SB::[]::[(i4,.cells false [.int .i64 g.terms,.int .i64 g.nons,.int .i64 g.start,.slice ga gm gc])]::own)
  (fun s G=>numF 400 (fun s=>(symsL g).map (nx s)) 401 0 [st0] []=numF 400 (fun s=>(symsL g).map (nx s)) (401-s.i) s.i s.sts s.rows∧NumI 400 (fun s=>(symsL g).map (nx s)) st0 s.i s.sts s.rows∧Bld (tList zzIK5) G s.sa s.sn s.sc s.SB s.sts∧Bld (tList tInt) G s.ta s.tn s.tc s.TB s.rows∧MapOk key P s.es s.sts∧∀x∈s.sts,P x) (fun s=>401-s.i)
  ⟨0,[st0],[],some ⟨i26,0,none⟩,1,1,[(i26,.cells false [.slice b n d])],none,0,0,[],mset [] (nameF key st0) (.int .i64 0)⟩
  sM (OwnLe.flat (List.Perm.refl _)) ⟨rfl,NumI.begin _ _ (by decide),⟨rfl,.inr ⟨i26,_,rfl,rfl,rfl,Cells.single (R:=tList zzIK5) (x:=st0) ⟨_,_,_,rfl,h01⟩,by decide⟩⟩,Bld.nil_ _ _,MapOk.one hinj hP0,fun x hx=>by rw[List.mem_singleton.1 hx];exact hP0⟩ ?_
 intro s F1 hF1 hI;obtain⟨hnum,hN,hsb,htb,hmp,hall⟩:=hI;have hfew:=hN.few;have hle:=hN.le;have hrl:=hN.len;have hsn:=hsb.len;have htn:=htb.len;have hi61:=hF1 _ _ hi6;refine zB7 ?_;refine AW.cond Z (fun h=>?_) (fun h=>?_)
 ·have hlt:s.i<s.sts.length:=by simp at h;omega
  obtain⟨st,hst⟩:∃st,s.sts[s.i]?=some st:=⟨_,gE hlt⟩;have hPst:=hall st (gM hst);refine zB7 ?_;refine AW.block ?_;refine zB7 ?_;have hsy:=symbols_spec F1 g hg (a:=ga) (m:=gm) (c:=gc);unfold gramCells at hsy;refine WT.callF0 Tryz.func65 Z Z Z Z Z Z hsy (fun F2 v hF2 hv=>?_);obtain⟨ya,yn,yc,rfl,hy⟩:=hv;have hyl:=hy.len;rw[symsL_len] at hyl;refine zB7 ?_
  refine AW.range (S:=zzIK1) (fun u=>[(12,.slice u.sa u.sn u.sc),(16,.slice u.ra u.rn u.rc)]) (fun u=>u.RB::s.TB::[(im,.map (entsV keyStr u.es))]::u.SB::[]::[(i4,.cells false [.int .i64 g.terms,.int .i64 g.nons,.int .i64 g.start,.slice ga gm gc])]::own)
   (fun k u G=>addAll s.sts (((symsL g).map (nx st)).take k)=(u.sts,u.row)∧u.sts.length≤400∧Bld (tList zzIK5) G u.sa u.sn u.sc u.SB u.sts∧Bld tInt G u.ra u.rn u.rc u.RB u.row∧MapOk key P u.es u.sts∧∀x∈u.sts,P x) yn ⟨s.sts,[],s.sa,s.sn,s.sc,s.SB,none,0,0,[],s.es⟩
   Z Z Z Z Z Z Z Z Z zo rfl rfl (fun _=>rfl) (fun _=>rfl) sM (OwnLe.flat (List.Perm.refl _)) ⟨rfl,hfew,hsb.mono hF2,Bld.nil_ _ _,hmp,hall⟩ ?_ ?_
  ·intro k u F3 hF3 hk hI;obtain⟨hadd,hu4,hub,hrb,hum,huall⟩:=hI;have hy3:=hy.mono hF3;have hi63:=hF3 _ _ (hF2 _ _ hi61);have hrow:=hrb.len;have hun:=hub.len;obtain⟨⟨ex,hex⟩,hnd,_,hro⟩:=addAll_ok (((symsL g).map (nx st)).take k) s.sts;rw[hadd] at hex hnd hro;have hex:u.sts=s.sts++ex:=hex;have hrl:=hro.len;rw[List.length_take,List.length_map,symsL_len] at hrl;have hrl:u.row.length=k:=by
    have h9:u.row.length=min k (g.terms+g.nons):=hrl;rw[h9,Nat.min_eq_left zo]
   have hsti:u.sts[s.i]?=some st:=by rw[hex,List.getElem?_append_left hlt];exact hst
   refine zB8 ?_;refine WT.idxL hT hy3 Z Z Z Z Z Z Z Z Z (by rw[symsL_len];omega) (fun y hyk b1 off1 ro1 cs1 lx1 hb1 hp1 hrel1=>?_);obtain rfl:lx1=_:=hrel1;obtain⟨hyo,hyi⟩:=symsL_ok hyk;have hosk:((symsL g).map (nx st))[k]?=some (nx st y):=by rw[List.getElem?_map,hyk];rfl
   have htk:((symsL g).map (nx st)).take (k+1)=((symsL g).map (nx st)).take k++[nx st y]:=by rw[List.take_add_one,hosk];rfl
   refine zB8 ?_;refine WT.allocT hT Z Z Z Z Z Z (fun i18 hi18=>?_);refine zB8 ?_;refine WT.vidx hT hub.vec Z Z Z Z Z Z Z Z Z (by rw[hun,hex,List.length_append];omega) (fun b5 hb5=>?_);refine WT.vldE hT 4 hub.vec hb5 hsti Z Z Z Z Z Z Z Z Z (fun v hv=>?_);obtain⟨qa,qn,qc,hv,hq⟩:=hv;obtain rfl:v=.slice qa qn qc:=by simpa using hv
   refine zB8 ?_;refine WT.callCF0 (first:=firstx) (args:=[.slice qa qn qc,.agg ⟨[.bool y.term,.int .i64 y.n]⟩]) (capt:=captx) hgx hbx Z Z Z Z Z Z Z (hnext F3 (hF0.trans (hF1.trans (hF2.trans hF3))) _ _ _ st y hPst hq hyo) (fun F4 v hF4 hv=>?_)
   obtain⟨za,zn,zc,zb,s',rfl,hz,hnx⟩:=hv;have hrb4:=hrb.mono hF4;have hub4:=hub.mono hF4;have hsnoc:=addAll_snoc (((symsL g).map (nx st)).take k) s.sts (nx st y);rw[←htk,hadd] at hsnoc;refine zB8 ?_;refine AW.cond Z (fun hzb=>?_) (fun hzb=>?_)
   ·have hzb:zb=false:=by simpa using hzb
    rw[hzb,if_neg (by simp)] at hnx;rw[hnx] at hsnoc;refine zB8 ?_;refine WT.buildT hT Z Z Z Z Z Z Z Z Z Z Z Z Z Z (fun i58 hi58=>?_);refine WT.appendT (R:=tInt) (ys:=[-1]) hT 2 hrb4 Z (fun _=>rfl) Z Z Z Z Z Z Z Z Z Z Z (fun h0 s0=>news_own hT s0 0 Z Z Z Z) (Cells.single (R:=tInt) (x:=-1) rfl) Z (by decide) zom (fun a3 c3 B3 hB3=>?_);refine zB8 ?_;refine AW.exit ?_;exact⟨⟨u.sts,u.row++[-1],u.sa,u.sn,u.sc,u.SB,a3,u.rn+1,c3,B3,u.es⟩,sM,zow,hsnoc,hu4,hub4,hB3,hum,huall⟩
   ·have hzb:zb=true:=by simpa using hzb
    rw[hzb,if_pos rfl] at hnx;rw[hnx] at hsnoc;have hPs:=hnP st y s' hPst hnx;refine zB8 ?_;refine WT.callC (first:=[]) (args:=[.slice za zn zc]) (capt:=[.pointer (some ⟨i6,0,none⟩)]) zzIK3 Z Z Z Z Z Z Z Z (zzIK4 F4 hz (hz.len▸(hPl _ hPs).1) hgk hbk (hF4 _ _ hi63) key (fun x hx=>hlen x ((hPl _ hPs).2 x hx)) (fun x hx G hG=>hkey x ((hPl _ hPs).2 x hx) G (hF0.trans (hF1.trans (hF2.trans (hF3.trans (hF4.trans hG))))))) (fun v hv=>?_)
    subst hv;refine zB8 ?_;have hlk:=hum s' hPs;refine WT.lookup2 keyStr hT 3 (m:=u.es) (key:=nameF key s') Z Z Z Z Z Z Z me Z Z Z (fun v hv=>?_) (fun hv=>?_)
    ·rw[hv] at hlk;have hmem:s'∈u.sts:=by
      by_cases hm:s'∈u.sts
      ·exact hm
      ·rw[if_neg hm] at hlk;cases hlk
     rw[if_pos hmem] at hlk;obtain rfl:=Option.some.inj hlk;have hone:addOne u.sts (some s')=(u.sts,((idxD s' u.sts:Nat):Int)):=by unfold addOne;simp only[if_pos hmem];rfl
     rw[hone] at hsnoc;refine zB8 ?_;refine AW.cond Z (fun h=>(by cases h)) (fun _=>?_);refine zB8 ?_;refine WT.buildT hT Z Z Z Z Z Z Z Z Z Z Z Z Z Z (fun i58 hi58=>?_);refine WT.appendT (R:=tInt) (ys:=[((idxD s' u.sts:Nat):Int)]) hT 2 hrb4 Z (fun _=>rfl) Z Z Z Z Z Z Z Z Z Z Z (fun h0 s0=>news_own hT s0 0 Z Z Z Z) (Cells.single (R:=tInt) (x:=((idxD s' u.sts:Nat):Int)) rfl) Z (by decide) zom (fun a3 c3 B3 hB3=>?_);refine zB8 ?_;exact⟨⟨u.sts,u.row++[((idxD s' u.sts:Nat):Int)],u.sa,u.sn,u.sc,u.SB,a3,u.rn+1,c3,B3,u.es⟩,sM,zow,hsnoc,hu4,hub4,hB3,hum,huall⟩
    ·rw[hv] at hlk;have hmem:s'∉u.sts:=fun hm=>by rw[if_pos hm] at hlk;cases hlk
     have hone:addOne u.sts (some s')=(u.sts++[s'],((u.sts.length:Nat):Int)):=by unfold addOne;simp only[if_neg hmem]
     rw[hone] at hsnoc;refine zB8 ?_;refine AW.cond Z (fun _=>?_) (fun h=>(by cases h));refine zB8 ?_;refine AW.cond Z (fun h4=>?_) (fun h4=>?_)
     ·have h4:u.sts.length=400:=by simp at h4;omega
      refine zB8 ?_;refine AW.ret ⟨_,[],⟨_,_,rfl,⟨_,_,rfl,⟨_,_,rfl,rfl,rfl⟩,rfl⟩,rfl⟩,zsb,rfl,.inl ⟨?_,rfl⟩⟩;rw[hnum,show 401-s.i=(400-s.i)+1 by omega,numF_at _ () hst,if_neg];have h5:=addAll_more s.sts (((symsL g).map (nx st)).take (k+1)) (((symsL g).map (nx st)).drop (k+1));rw[List.take_append_drop,hsnoc] at h5;simp only[List.length_append,List.length_singleton] at h5;omega
     ·have h4:u.sts.length≠400:=by simp at h4;omega
      refine zB8 ?_;refine WT.mapSet keyStr hT 3 0 (m:=u.es) (key:=nameF key s') Z Z Z Z Z Z Z Z Z Z Z Z ?_;refine zB8 ?_;refine WT.buildT hT Z Z Z Z Z Z Z Z Z Z Z Z Z Z (fun i80 hi80=>?_);refine WT.appendT (R:=tList zzIK5) (ys:=[s']) hT 5 hub4 Z (fun _=>rfl) Z Z Z Z Z Z Z Z Z Z Z (fun h0 s0=>news_own hT s0 0 Z Z Z Z) (Cells.single (R:=tList zzIK5) (x:=s') ⟨_,_,_,rfl,hz⟩) Z (by decide) zom (fun a4 c4 B4 hB4=>?_);refine zB8 ?_;refine WT.buildT hT Z Z Z Z Z Z Z Z Z Z Z Z Z Z (fun i58 hi58=>?_)
      refine WT.appendT (R:=tInt) (ys:=[((u.sn:Nat):Int)]) hT 3 hrb4 Z (fun _=>rfl) Z Z Z Z Z Z Z Z Z Z Z (fun h0 s0=>news_own hT s0 0 Z Z Z Z) (Cells.single (R:=tInt) (x:=((u.sn:Nat):Int)) rfl) Z (by decide) zom (fun a3 c3 B3 hB3=>?_);refine zB8 ?_;have hum2:=hum.add hinj hPs hmem;rw[←hun] at hum2 hsnoc;refine⟨⟨u.sts++[s'],u.row++[((u.sn:Nat):Int)],a4,u.sn+1,c4,B4,a3,u.rn+1,c3,B3,mset u.es (nameF key s') (.int .i64 (u.sn:Nat))⟩,sM,zow,hsnoc,?_,hB4,hB3,hum2,fun x hx=>?_⟩
      ·show (u.sts++[s']).length≤400;rw[List.length_append,List.length_singleton];omega
      ·rcases List.mem_append.1 hx with hx | hx
       ·exact huall x hx
       ·rw[List.mem_singleton.1 hx];exact hPs
  ·intro u F3 hF3 hI;obtain⟨hadd,hu4,hub,hrb,hum,huall⟩:=hI;rw[List.take_of_length_le (by rw[List.length_map,symsL_len];omega)] at hadd;refine AW.freezeAll 0 Z Z (fun F4 hF4 hB4=>?_);have hrow:=hrb.frozen hF4 hB4;have hF14:=(hF2.trans hF3).trans hF4;have htb4:=htb.mono hF14;refine zB8 ?_;refine WT.buildT hT Z Z Z Z Z Z Z Z Z Z Z Z Z Z (fun i89 hi89=>?_);refine WT.appendT (R:=tList tInt) (ys:=[u.row]) hT 2 htb4 Z (fun _=>rfl) Z Z Z Z Z Z Z Z Z Z Z (fun h0 s0=>news_own hT s0 0 Z Z Z Z) (Cells.single (R:=tList tInt) (x:=u.row) ⟨_,_,_,rfl,hrow⟩) Z (by decide) zom (fun a3 c3 B3 hB3=>?_)
   refine zB8 ?_;have hstep:(addAll s.sts ((symsL g).map (nx st))).1=u.sts∧(addAll s.sts ((symsL g).map (nx st))).2=u.row:=by rw[hadd];exact⟨rfl,rfl⟩
   have hN2:=hN.next hst (by rw[hstep.1];exact hu4)
   have hun:=hub.len;refine⟨⟨s.i+1,u.sts,s.rows++[u.row],u.sa,u.sn,u.sc,u.SB,a3,s.tn+1,c3,B3,u.es⟩,by dsimp only;omega,sM,zow,?_,?_,hub.mono hF4,hB3,hum,huall⟩
   ·rw[hnum,show 401-s.i=(400-s.i)+1 by omega,numF_at _ () hst,if_pos (by rw[hstep.1];exact hu4),hstep.1,hstep.2];show numF 400 _ (400-s.i) (s.i+1) _ _=numF 400 _ (401-(s.i+1)) (s.i+1) _ _;rw[show 401-(s.i+1)=400-s.i by omega]
   ·rw[hstep.1,hstep.2] at hN2;exact hN2
 ·have hge:s.sts.length≤s.i:=by simp at h;omega
  refine AW.exit ?_;refine AW.freezeAll 0 Z Z (fun F2 hF2 hB2=>?_);refine AW.freezeAll 2 Z Z (fun F3 hF3 hB3=>?_);have ht:=htb.frozen hF2 hB2;have hs3:=(hsb.mono hF2).frozen hF3 hB3;refine zB7 ?_;refine AW.ret ⟨_,[],⟨_,_,rfl,⟨_,_,rfl,⟨_,_,rfl,rfl,rfl⟩,rfl⟩,rfl⟩,zsb,rfl,.inr ⟨s.sts,s.rows,_,_,_,_,_,_,?_,rfl,hs3,ht.mono hF3⟩⟩;rw[hnum,show 401-s.i=(400-s.i)+1 by omega];unfold numF;rw[List.getElem?_eq_none hge]):p:=h
namespace NI
abbrev zzIK0:=NmOI
abbrev zzIK1:=NmRI
abbrev zzIK2:=Tryz.func70
abbrev zzIK3:=Tryz.func89
abbrev zzIK4:=@nameI_spec
abbrev zzIK5:=tLr
end NI
open NI in
theorem numberI_spec(F:Frz)(g:Gram)(hg:Valid g){ga:Option Addr}{gm gc:Nat}{b:Option Addr}{n d:Nat}{st0:List Lr}(h0:Arr tLr F b n d st0)
  {fk fx:Nat} {fnk fnx:Func} {firstx captx:List Value} (hgk:CC.func fk=some fnk) (hbk:fnk.body.isSome=true) (hgx:CC.func fx=some fnx) (hbx:fnx.body.isSome=true)
  (key:Lr→List UInt8) (nx:List Lr→Sym→Option (List Lr)) (P:List Lr→Prop) (okx:Lr→Prop)
  (hP0:P st0) (hPl:∀s,P s→s.length≤1000∧∀x∈s,okx x) (hinj:∀s s',P s→P s'→nameF key s=nameF key s'→s=s') (hnP:∀s y s',P s→nx s y=some s'→P s')
  (hlen:∀x,okx x→(key x).length≤20) (hkey:∀x,okx x→∀G,Frz.le F G→Abs.Spec CC fk [.agg ⟨[.int .i64 x.rule,.int .i64 x.dot]⟩] G [] fun _ v o=>o=[]∧v=.string (strB (key x)))
  (hnext:∀G,Frz.le F G→∀(a:Option Addr) (m c:Nat) (s:List Lr) (y:Sym),P s→Arr tLr G a m c s→SymOk g.terms g.nons y→
   Abs.Spec CC fx (firstx++[.slice a m c,.agg ⟨[.bool y.term,.int .i64 y.n]⟩]++captx) G [] fun G' v o=>o=[]∧∃a' n' c' z s',v=.tuple ⟨[.slice a' n' c',.bool z]⟩∧Arr tLr G' a' n' c' s'∧nx s y=if z=true then some s' else none) :
  Abs.Spec CC 70 [.agg ⟨gramCells g ga gm gc⟩,.slice b n d,.func (.func fk) ⟨[]⟩ ⟨[]⟩,.func (.func fx) ⟨firstx⟩ ⟨captx⟩] F [] fun F' v o=>o=[]∧
   ((numF 400 (fun s=>(symsL g).map (nx s)) 401 0 [st0] []=none∧v=.tuple ⟨[.slice none 0 0,.slice none 0 0,.bool false]⟩)∨
    ∃S rows a1 n1 c1 a2 n2 c2,numF 400 (fun s=>(symsL g).map (nx s)) 401 0 [st0] []=some (S,rows)∧v=.tuple ⟨[.slice a1 n1 c1,.slice a2 n2 c2,.bool true]⟩∧Arr (tList tLr) F' a1 n1 c1 S∧Arr (tList tInt) F' a2 n2 c2 rows):=shIKnumber_spec
def PI(g:Gram)(s:List Lr):Prop:=s.length≤1000∧∀x∈s,OkLr g x
theorem okI{g:Gram}(hg:Valid g){x:Lr}(h:OkLr g x):x.rule<100∧x.dot<100:=by
 have hr:=hg.range.rules;obtain⟨h1,h2⟩:=h;refine⟨by omega,?_⟩;have:(rightL g x.rule).length≤4:=by
  unfold rightL;split
  ·simp
  ·cases hq:g.rules[x.rule]? with
   | none=>simp
   | some r=>exact(hg.right r (gM hq)).2.1
 omega
theorem allLr_len{g:Gram}(hg:Valid g):(allLr g).length≤1000:=by
 have hr:=hg.range.rules;unfold allLr;rw[List.length_flatten,List.map_map];have:∀n≤g.rules.length+1,((List.range n).map (List.length ∘ fun k=>(List.range ((rightL g k).length+1)).map fun d=>(⟨k,d⟩:Lr))).sum≤n*5:=by
  intro n hn
  induction n with
  | zero=>simp
  | succ n ih=>
   rw[List.range_succ,List.map_append,List.sum_append];have ih:=ih zo;simp only[List.map_cons,List.map_nil,List.sum_cons,List.sum_nil,Function.comp,List.length_map,List.length_range];have h2:(rightL g n).length≤4:=by
    unfold rightL;split
    ·simp
    ·cases hq:g.rules[n]? with
     | none=>simp
     | some r=>exact(hg.right r (gM hq)).2.1
   omega
 have h:=this _ (Nat.le_refl _);omega
theorem closL_PI{g:Gram}(hg:Valid g)(l:List Lr):PI g (closL g l):=by
 refine⟨?_,closL_ok⟩;have h1:=allLr_len hg;have h2:=List.length_filter_le (fun z=>@decide (Clos g l z) (Classical.propDecidable _)) (allLr g);unfold closL;omega
theorem itemsOf2_spec(F:Frz)(g:Gram)(hg:Valid g){a:Option Addr}{m c:Nat}(hr:Arr tRule F a m c g.rules) :
  Abs.Spec CC 44 [.agg ⟨gramCells g a m c⟩] F [] fun F' v o=>o=[]∧((autoI g=none∧v=.tuple ⟨[.agg ⟨[.slice none 0 0,.slice none 0 0]⟩,.int .i64 2]⟩)∨
   ∃I rows a1 n1 c1 a2 n2 c2,autoI g=some (I,rows)∧v=.tuple ⟨[.agg ⟨[.slice a1 n1 c1,.slice a2 n2 c2]⟩,.int .i64 0]⟩∧Arr (tList tLr) F' a1 n1 c1 I∧Arr (tList tInt) F' a2 n2 c2 rows):=by
 have hrl:=hr.len;have hgr:=hg.range.rules;have hg4:∀r∈g.rules,r.right.length≤100:=fun r h=>by have:=(hg.right r h).2.1;omega
 refine Abs.Spec.fn (n:=34) Tryz.func44 rfl rfl fun own=>?_;refine AW.seq (AW.reg ?_);refine WT.boxT Z Z Z Z Z Z (fun i1 hi1=>?_);refine WT.freezeAll 0 Z Z (fun F0 hF0 hB0=>?_);have hi1:=hB0 i1 _ me;have hr:=hr.mono hF0;unfold gramCells at hi1 ⊢;refine WT.allocT hT Z Z Z Z Z Z (fun i2 hi2=>?_);refine zB4 ?_;have hck:=check_spec F0 g hg.range hr;unfold gramCells at hck;refine WT.callV Tryz.func32 Z Z Z Z Z Z hck (fun v hv=>?_);rw[hg.no_err] at hv;subst hv;refine zB4 ?_;refine AW.cond Z (fun h=>(by cases h)) (fun _=>?_);refine zB4 ?_;refine AW.draw (ps:=[(0,6),(0,7),(1,6)]) Z Z ?_;refine zB4 ?_
 refine WT.buildT hT Z Z Z Z Z Z Z Z Z Z Z Z Z Z (fun i21 hi21=>?_);refine WT.freezeAll 0 Z Z (fun F1 hF1 hB1=>?_);have hk1:Arr tLr F1 (some ⟨i21,0,none⟩) 1 2 [⟨g.rules.length,0⟩]:=by
  have hb:Bld tLr F0 (some ⟨i21,0,none⟩) 1 2 [(i21,.cells false [.int .i64 m,.int .i64 0])] [⟨g.rules.length,0⟩]:=⟨rfl,.inr ⟨i21,_,rfl,rfl,rfl,Cells.single (R:=tLr) (x:=⟨g.rules.length,0⟩) (by rw[←hrl];rfl),by decide⟩⟩;exact hb.frozen hF1 hB1
 have hr1:=hr.mono hF1;have hi11:=hF1 _ _ hi1;have hcs:=closure_spec F1 g hg4 hr1 zo hk1 zo (fun z hz=>(start_ok z hz).1);unfold gramCells at hcs;refine WT.callF0 Tryz.func71 Z Z Z Z Z Z hcs (fun F2 v hF2 hv=>?_);obtain⟨a8,m8,c8,zs,rfl,hz,hzm,hstr,hmem⟩:=hv;obtain rfl:zs=firstI g:=closL_eq start_ok hstr hmem;have hr2:=hr1.mono hF2;have hi12:=hF2 _ _ hi11;refine zB4 ?_;have hnm:=numberI_spec F2 g hg (ga:=a) (gm:=m) (gc:=c) hz (fk:=67) (fx:=72) (firstx:=[]) (captx:=[.pointer (some ⟨i1,0,none⟩)]) Tryz.func67 rfl Tryz.func72 rfl
  keyIt (nextI g) (PI g) (fun x=>x.rule<100∧x.dot<100) (closL_PI hg _) (fun s hs=>⟨hs.1,fun x hx=>okI hg (hs.2 x hx)⟩)
  (fun s s' hs hs' e=>nameI_inj (fun x hx=>okI hg (hs.2 x hx)) (fun x hx=>okI hg (hs'.2 x hx)) e)
  (fun s y s' _ e=>by
   unfold nextI at e;split at e
   ·cases e
   ·obtain rfl:=Option.some.inj e;exact closL_PI hg _)
  (fun x _=>by have:=keyIt_len x;omega) (fun x hx G _=>keyIt_spec G x hx)
  (fun G hG a' m' c' s y hs hA hy=>nextI_spec G g hg (hG _ _ hi12) (hr2.mono hG) hA (hA.len▸hs.1) hs.2 y hy)
 unfold gramCells at hnm;refine WT.callF0 Tryz.func70 Z Z Z Z Z Z hnm (fun F3 v hF3 hv=>?_);rcases hv with ⟨hno,rfl⟩ | ⟨S,rows,a1,n1,c1,a2,n2,c2,hyes,rfl,hS,hR⟩
 ·refine zB4 ?_;refine⟨zrC,?_⟩;refine zB4 ?_;refine AW.cond Z (fun _=>?_) (fun h=>(by cases h));refine zB4 ?_;exact AW.ret ⟨_,[],⟨_,_,⟨_,rfl,fun G h0 s0=>loadA_cells (s0.has (p:=1) rfl me) (readT_ok hT rfl)⟩,⟨_,_,rfl,rfl,rfl⟩,rfl⟩,zsb,rfl,.inl ⟨hno,rfl⟩⟩
 ·refine zB4 ?_;refine⟨zrC,?_⟩;refine zB4 ?_;refine AW.cond Z (fun h=>(by cases h)) (fun _=>?_);refine zB4 ?_;exact AW.ret ⟨_,[],⟨_,_,⟨_,rfl,fun G h0 s0=>loadA_cells (s0.has (p:=1) rfl me) (readT_ok hT rfl)⟩,⟨_,_,rfl,rfl,rfl⟩,rfl⟩,zsb,rfl,.inr ⟨S,rows,_,_,_,_,_,_,hyes,rfl,hS,hR⟩⟩
def lkV(x:Look):List Value:=[.int .i64 x.item.rule,.int .i64 x.item.dot,.int .u32 x.set]
def tLook:Ty Look where
 size:=3
 rel:=fun _ l x=>l=lkV x
 len:=fun _ _ _ h=>by rw[h];rfl
 one:=fun _ _ _ h=>by rw[h];rfl
 mono:=fun _ _ _ _ _ h=>h
theorem keyLk_spec(F:Frz)(x:Look)(hx:x.item.rule<100∧x.item.dot<100)(hs:x.set<100):Abs.Spec CC 42 [.agg ⟨[.int .i64 x.item.rule,.int .i64 x.item.dot,.int .u32 x.set]⟩] F [] fun _ v o=>o=[]∧v=.string (strB (keyLk x)):=by
 have h1:=keyIt_len x.item;have h2:=itoaB_len x.set;refine Abs.Spec.fn (n:=12) Tryz.func42 rfl rfl fun own=>?_;refine AW.seq (AW.reg ?_);refine WT.boxT Z Z Z Z Z Z (fun i1 hi1=>?_);refine zC4 ?_;refine AW.draw (ps:=[(3,7),(5,2)]) Z Z ?_;refine zC4 ?_;refine WT.callV Tryz.func67 Z Z Z Z Z Z (keyIt_spec F x.item hx) (fun v hv=>?_);subst hv;refine WT.addStr Z Z Z Z Z Z (by rw[strB_size];show _+1≤_;omega) ?_;refine zC4 ?_;refine WT.conv hT (x:=(x.set:Int)) Z Z Z Z Z Z Z Z (wrap64 ⟨by omega,by omega⟩) ?_
 refine WT.callV Tryz.func68 Z Z Z Z Z Z (itoa_spec _ x.set hs) (fun v hv=>?_);subst hv;refine WT.addStr Z Z Z Z Z Z (by rw[show (strB (keyIt x.item)++{ data:=#[32] }:ByteArray)=strB (keyIt x.item)++strB [32] from rfl,strB_app,strB_size,strB_size,List.length_append];show _+1+_≤_;omega) ?_;refine zC4 ?_;refine⟨zrC,?_⟩;refine AW.ret ⟨_,[],⟨_,_,rfl,rfl,rfl⟩,zsb,rfl,?_⟩;show Value.string (strB (keyIt x.item)++strB [32]++strB (itoaB x.set))=_;rw[strB_app,strB_app,List.append_assoc];rfl
theorem keyLk_len(x:Look):(keyLk x).length≤8:=by
 have h1:=keyIt_len x.item;have h2:=itoaB_len x.set;unfold keyLk;simp only[List.length_append,List.length_cons];omega
end Go.Proofs.D
set_option linter.unusedVariables false
set_option maxRecDepth 20000
set_option maxHeartbeats 0
open Go Go.Abs Go.Proofs Go.Proofs.D
namespace Go.Abs
section
variable {C:Ctx}{T:RT}{t:TypeId}{κ:Type}[DecidableEq κ](K:KeyTy C t κ)
variable {n:Nat}{k:Kno}{F:Frz}{own:Own}{ops rest:List Oper}{o:Oper}{Q:Kno→Frz→Own→List Rec→Prop}
theorem WT.lookupF(hT:rowsOk C T=true){tm et:TypeId}{mo ko:Operand}{i:Nat}{m:Ents κ}{key:κ}{r:Row}{z:Value}{d:Nat}(hop:o.op=.lookup tm mo ko false)(hw:wantK ops k o=some true)(hdst:o.dst=some d)(hn:Nat.blt d n=true)
  (hm:evK C k mo=some (.map (some i))) (hk:evK C k ko=some (K.key key)) (hF:F i=some (.map (entsV K m))) (hr:rowOf T tm=some r) (hd:r.d=.map t et) (hz:zeroT T et=some z)
  (h1:WT C n ops rest ((d,(Abs.look m key).getD z)::k) F own (fun k2 F2 own2 rs=>Q k2 F2 own2 (⟨F,own,F,own,[i]⟩::rs))):WT C n ops (o::rest) k F own Q:=by
 have hl:looksK (evK C k) o.op=some [i]:=by rw[hop];simp only[looksK,hm]
 refine WT.still hw hl (fun h0 s0=>?_) (by rw[hdst,putK_some hn];exact h1);exact lookup_bend K hT hop hm hk hr hd hz (s0.frz i _ hF) rfl
end
end Go.Abs
namespace Go.Proofs.D
theorem lrRight2_spec(F:Frz)(g:Gram)(hg:Valid g){a:Option Addr}{m c:Nat}(hr:Arr tRule F a m c g.rules)(x:Nat)(hx:x≤g.rules.length) :
  Abs.Spec CC 63 [.agg ⟨gramCells g a m c⟩,.int .i64 x] F [] fun F' v o=>o=[]∧∃b n d,v=.slice b n d∧Arr tSym F' b n d (rightL g x):=by
 have hml:=hr.len;have hgr:=hg.range.rules;unfold gramCells;refine Abs.Spec.fn (n:=32) Tryz.func63 rfl rfl fun own=>?_;refine AW.seq (AW.reg ?_);refine WT.boxT Z Z Z Z Z Z (fun i2 hi2=>?_);refine zB4 ?_;refine AW.block ?_;refine zB4 ?_;refine AW.cond Z (fun h=>?_) (fun h=>?_)
 ·have h:x=g.rules.length:=by simp at h;omega
  refine zB4 ?_;refine WT.callV Tryz.func24 Z Z Z Z Z Z (gN_spec _ _) (fun v hv=>?_);subst hv;refine WT.buildT hT Z Z Z Z Z Z Z Z Z Z Z Z Z Z (fun i5 hi5=>?_);refine zB4 ?_;refine AW.freezeAll 0 Z Z (fun F2 hF2 hB2=>?_);have hb:Bld tSym F (some ⟨i5,0,none⟩) 1 2 [(i5,.cells false [.bool false,.int .i64 g.start])] [⟨false,g.start⟩]:=⟨rfl,.inr ⟨i5,_,rfl,rfl,rfl,Cells.single (R:=tSym) (x:=⟨false,g.start⟩) rfl,by decide⟩⟩;refine AW.ret ⟨_,[],⟨_,_,rfl,rfl,rfl⟩,zsb,rfl,_,_,_,rfl,?_⟩;rw[h,rightL_start];exact hb.frozen hF2 hB2
 ·have h:x<m:=by simp at h;omega
  refine zB4 ?_;refine AW.cond Z (fun h=>(by simp at h;omega)) (fun _=>?_);refine zB4 ?_;refine WT.idxL hT hr Z Z Z Z Z Z Z Z Z zo (fun r hrx b5 off5 ro5 cs5 lx5 hb5 hp5 hrel5=>?_);obtain⟨ra,rn,rc,rfl,hra⟩:=hrel5;have hral:=hra.len;have hr4:=(hg.right r (gM hrx)).2.1;refine zB4 ?_;refine WT.callN Tryz.func76 Z Z Z Z Z Z (symClone_spec _ hra zo) (fun F2 v B2 hF2 hv=>?_);obtain⟨ca,cc,rfl,hv⟩:=hv;refine zB4 ?_;refine AW.freezeAll 0 Z Z (fun F3 hF3 hB3=>?_);refine AW.ret ⟨_,[],⟨_,_,rfl,rfl,rfl⟩,zsb,rfl,_,_,_,rfl,?_⟩;rw[rightL_rule hrx];exact hv.arr hF3 hB3
theorem lr_eqB(p q:Lr):(((p.rule:Int)==(q.rule:Int))&&(((p.dot:Int)==(q.dot:Int))&&true))=decide (p=q):=by
 rw[Bool.eq_iff_iff];obtain⟨a,b⟩:=p;obtain⟨a',b'⟩:=q;simp only[Bool.and_eq_true,beq_iff_eq,decide_eq_true_eq,Lr.mk.injEq,and_true];omega
noncomputable def keyLr:KeyTy CC 113 Lr where
 key:=fun x=>.agg ⟨[.int .i64 x.rule,.int .i64 x.dot]⟩
 ok:=fun p=>keyT_ok hT 8 _ _ rfl
 eq:=fun p q=>by
  have h:eqA CC 8 113 (.agg ⟨[.int .i64 p.rule,.int .i64 p.dot]⟩) (.agg ⟨[.int .i64 q.rule,.int .i64 q.dot]⟩)=some (decide (p=q)):=by
   rw[←lr_eqB];exact eqT_ok hT 8 _ _ _ _ rfl
  by_cases e:p=q
  ·exact .inl ⟨e,by rw[h];simp[e]⟩
  ·exact .inr ⟨e,by rw[h];simp[e]⟩
def bOf(es:Ents Lr)(x:Lr):Value:=(Abs.look es x).getD (.int .u32 0)
def eOf(es:Ents Lr)(x:Lr):Value:=(Abs.look es x).getD (.bool false)
noncomputable def bM(g:Gram)(x:Lr):Nat:=maskOf (BegL g (restL g x)) g.terms
noncomputable def eM(g:Gram)(x:Lr):Bool:=@decide (NulL g (restL g x)) (Classical.propDecidable _)
structure MakerF(F:Frz)(im:Nat)(g:Gram)(ra:Option Addr)(rm rc:Nat)(E:List Bool)(Fi:List (List Bool))(is:Nat)(eb ee:Ents Lr):Prop where
 blk:∃ib ie ro,F im=some (.cells ro [.int .i64 g.terms,.int .i64 g.nons,.int .i64 g.start,.slice ra rm rc,.pointer (some ⟨is,0,none⟩),.map (some ib),.map (some ie)])∧F ib=some (.map (entsV keyLr eb))∧F ie=some (.map (entsV keyLr ee))
 sets:SetsF F is g ra rm rc E Fi
 fset:FSet g E Fi
 beg:∀x y,afterL g x=some y→bOf eb x=.int .u32 (bM g x:Nat)
 nul:∀x y,afterL g x=some y→eOf ee x=.bool (eM g x)
structure MkS where
 eb:Ents Lr
 ee:Ents Lr
def doneM(g:Gram)(r d:Nat)(x:Lr):Prop:=(x.rule<r∧x.dot<(rightL g x.rule).length)∨(x.rule=r∧x.dot<d)
def MkI(g:Gram)(D:Lr→Prop)(eb ee:Ents Lr):Prop:=∀x,(D x→bOf eb x=.int .u32 (bM g x:Nat)∧eOf ee x=.bool (eM g x))∧(¬D x→bOf eb x=.int .u32 0)
theorem MkI.congr{g:Gram}{D D':Lr→Prop}{eb ee:Ents Lr}(h:MkI g D eb ee)(hD:∀x,D x↔D' x):MkI g D' eb ee:=fun x=>⟨fun h1=>(h x).1 ((hD x).2 h1),fun h1=>(h x).2 fun h2=>h1 ((hD x).1 h2)⟩
theorem bOf_mset(es:Ents Lr)(k x:Lr)(v:Value):bOf (mset es k v) x=if x=k then v else bOf es x:=by
 unfold bOf;rw[look_mset];split<;>rfl
theorem eOf_mset(es:Ents Lr)(k x:Lr)(v:Value):eOf (mset es k v) x=if x=k then v else eOf es x:=by
 unfold eOf;rw[look_mset];split<;>rfl
theorem or_two_pow{x t:Nat}(h:x<2 ^ t):x ||| 1*2 ^ t=x+2 ^ t:=by
 have:=Nat.two_pow_add_eq_or_of_lt h 1;rw[Nat.mul_one] at this;rw[Nat.one_mul,Nat.or_comm,←this,Nat.add_comm]
theorem SetsF.mono{F G:Frz}{is:Nat}{g:Gram}{ra:Option Addr}{rm rc:Nat}{E:List Bool}{Fi:List (List Bool)}(h:SetsF F is g ra rm rc E Fi)(hF:Frz.le F G):SetsF G is g ra rm rc E Fi:=by
 obtain⟨ie,io,ce,co,ro,h1,h2,h3⟩:=h.blk;exact⟨⟨ie,io,ce,co,ro,hF _ _ h1,h2.mono hF,h3.mono hF⟩,h.row,h.rules.mono hF,h.closed⟩
theorem newMaker_spec(F:Frz)(g:Gram)(hg:Valid g){a:Option Addr}{m c:Nat}(hr:Arr tRule F a m c g.rules) :
  Abs.Spec CC 39 [.agg ⟨gramCells g a m c⟩] F [] fun F' v o=>o=[]∧∃im E Fi is eb ee,v=.pointer (some ⟨im,0,none⟩)∧MakerF F' im g a m c E Fi is eb ee:=by
 have hrl:=hr.len;have hgr:=hg.range.rules;have hgt:=hg.range.terms;have hgn:=hg.range.nons;unfold gramCells;refine Abs.Spec.fn (n:=78) Tryz.func39 rfl rfl fun own=>?_;refine AW.seq (AW.reg ?_);refine WT.boxT Z Z Z Z Z Z (fun i1 hi1=>?_);refine zB4 ?_;refine AW.draw (ps:=[(0,2),(0,3),(0,4),(1,3),(1,4)]) Z Z ?_;refine zB4 ?_;have hmk:=make2_spec F g hg hr;unfold gramCells at hmk;refine WT.callF0 Tryz.func33 Z Z Z Z Z Z hmk (fun F1 v hF1 hv=>?_);obtain⟨is,E,Fi,rfl,hS,hFS⟩:=hv;refine WT.makeMap Z Z Z Z (fun ib hib=>?_);refine WT.makeMap Z Z Z Z (fun ie hie=>?_);refine zB4 ?_
 refine WT.boxT Z Z Z Z Z Z (fun im him=>?_);refine zB4 ?_;refine⟨zrC,?_⟩;refine zB4 ?_;refine AW.range (S:=MkS) (fun _=>[]) (fun s=>[(im,.cells false [.int .i64 g.terms,.int .i64 g.nons,.int .i64 g.start,.slice a m c,.pointer (some ⟨is,0,none⟩),.map (some ib),.map (some ie)])]::[(ie,.map (entsV keyLr s.ee))]::[(ib,.map (entsV keyLr s.eb))]::[(i1,.cells false [.int .i64 g.terms,.int .i64 g.nons,.int .i64 g.start,.slice a m c])]::own)
  (fun j s G=>MkI g (doneM g j 0) s.eb s.ee) (m+1) ⟨[],[]⟩
  Z Z Z Z Z Z Z Z Z zo rfl rfl (fun _=>rfl) (fun _=>rfl) sM oR (fun x=>⟨fun h=>(by unfold doneM at h;omega),fun _=>rfl⟩) ?_ ?_
 ·intro j s F2 hF2 hj hI;have hr2:=(hr.mono hF1).mono hF2;refine zB4 ?_;have hrt:=lrRight2_spec F2 g hg hr2 j zo;unfold gramCells at hrt;refine WT.callF0 Tryz.func63 Z Z Z Z Z Z hrt (fun F3 v hF3 hv=>?_);obtain⟨ya,yn,yc,rfl,hy⟩:=hv;have hyl:=hy.len;have hyok:=rightL_ok hg j;have hy4:(rightL g j).length≤4:=by
   unfold rightL;split
   ·simp
   ·cases hq:g.rules[j]? with
    | none=>simp
    | some r=>exact(hg.right r (gM hq)).2.1
  refine zB4 ?_;refine AW.range (S:=MkS) (fun _=>[]) (fun s=>[(im,.cells false [.int .i64 g.terms,.int .i64 g.nons,.int .i64 g.start,.slice a m c,.pointer (some ⟨is,0,none⟩),.map (some ib),.map (some ie)])]::[(ie,.map (entsV keyLr s.ee))]::[(ib,.map (entsV keyLr s.eb))]::[(i1,.cells false [.int .i64 g.terms,.int .i64 g.nons,.int .i64 g.start,.slice a m c])]::own)
   (fun e s G=>MkI g (doneM g j e) s.eb s.ee) yn s
   Z Z Z Z Z Z Z Z Z zo rfl rfl (fun _=>rfl) (fun _=>rfl) sM oR hI ?_ ?_
  ·intro e s F4 hF4 he hI;have hy4':=hy.mono hF4;have hF14:=(hF2.trans hF3).trans hF4;refine zC4 ?_;obtain⟨ra,rc,hrs,hra⟩:=hy4'.slice (C:=CC) (lo:=e+1) (hi:=yn) zo (Nat.le_refl _) hT (t:=56) Z Z Z (some (.int .i64 ((e+1:Nat):Int))) none (by simp[boundA];omega) rfl;refine WT.slice Z Z Z Z Z Z Z Z hrs ?_;rw[List.take_of_length_le zo] at hra;have hS4:=hS.blk;obtain⟨ie0,io0,ce0,co0,ro0,hb0,hE0,hFi0⟩:=hS4;have hlst:=hFS.list (l:=(rightL g j).drop (e+1)) (fun y hy=>hyok y (List.mem_of_mem_drop hy))
   refine WT.callN Tryz.func35 Z Z Z Z Z Z (sof_spec F4 (hF14 _ _ hb0) (hE0.mono hF14) (hFi0.mono hF14) hS.row zo hra zo (fun y hy=>hyok y (List.mem_of_mem_drop hy))) (fun F5 v B5 hF5 hv=>?_);obtain⟨ir,rfl,hrl5,rfl⟩:=hv;refine WT.freezeAll 0 Z Z (fun F6 hF6 hB6=>?_);have hrow:Arr tBool F6 (some ⟨ir,0,none⟩) g.terms (if g.terms=0 then 0 else 1) (ofRow E Fi (List.replicate g.terms false) ((rightL g j).drop (e+1))).1:=by
    have:=arr_of_cells (K:=cBool) (R:=tBool) (F:=F6) (id:=ir) (row:=(ofRow E Fi (List.replicate g.terms false) ((rightL g j).drop (e+1))).1) (c:=if (ofRow E Fi (List.replicate g.terms false) ((rightL g j).drop (e+1))).1.length=0 then 0 else 1) (ro:=false) rfl (fun _ _=>rfl) rfl (hB6 ir _ me);rw[hrl5] at this;exact this
   have hrest:(rightL g j).drop (e+1)=restL g ⟨j,e⟩:=rfl;rw[hrest] at hlst hrow hrl5 ⊢;generalize ofRow E Fi (List.replicate g.terms false) (restL g ⟨j,e⟩)=fr at hlst hrow hrl5 ⊢;obtain⟨row,emp⟩:=fr;dsimp only at hlst hrow hrl5;have hx0:bOf s.eb ⟨j,e⟩=.int .u32 0:=(hI ⟨j,e⟩).2 (by unfold doneM;dsimp only;omega);refine zC4 ?_;refine WT.allocT hT Z Z Z Z Z Z (fun i9 hi9=>?_);refine zC4 ?_
   refine AW.range (S:=Ents Lr) (fun _=>[]) (fun eb=>[(i9,.cells false [.int .i64 j,.int .i64 e])]::[]::[(im,.cells false [.int .i64 g.terms,.int .i64 g.nons,.int .i64 g.start,.slice a m c,.pointer (some ⟨is,0,none⟩),.map (some ib),.map (some ie)])]::[(ie,.map (entsV keyLr s.ee))]::[(ib,.map (entsV keyLr eb))]::[(i1,.cells false [.int .i64 g.terms,.int .i64 g.nons,.int .i64 g.start,.slice a m c])]::own)
    (fun t eb G=>(∀x,x≠⟨j,e⟩→bOf eb x=bOf s.eb x)∧bOf eb ⟨j,e⟩=.int .u32 (maskOf (BegL g (restL g ⟨j,e⟩)) t:Nat)) g.terms s.eb
    Z Z Z Z Z Z Z Z Z zo rfl rfl (fun _=>rfl) (fun _=>rfl) sM oR ⟨fun _ _=>rfl,hx0⟩ ?_ ?_
   ·intro t eb F7 hF7 ht hI2;obtain⟨hoth,hcur⟩:=hI2;have hrow7:=hrow.mono hF7;refine zC4 ?_;refine WT.idxL hT hrow7 Z Z Z Z Z Z Z Z Z zo (fun ok hok b5 off5 ro5 cs5 lx5 hb5 hp5 hrel5=>?_);obtain rfl:lx5=_:=hrel5;have hbit:ok=true↔BegL g (restL g ⟨j,e⟩) t:=by
     rw[←hlst.1 t,List.getD_eq_getElem?_getD,hok];rfl
    refine zC4 ?_;refine AW.cond Z (fun h=>?_) (fun h=>?_)
    ·have hbg:=hbit.1 h;have hlt:=maskOf_lt (BegL g (restL g ⟨j,e⟩)) t;have hnew:maskOf (BegL g (restL g ⟨j,e⟩)) (t+1)=maskOf (BegL g (restL g ⟨j,e⟩)) t+2 ^ t:=by
      show _+(if _ then 2 ^ t else 0)=_;rw[if_pos (@decide_eq_true _ (Classical.propDecidable _) hbg)]
     refine AW.draw (ps:=[(5,9),(8,9)]) Z Z ?_;refine zC4 ?_;refine WT.lookup1B keyLr hT 4 (m:=eb) (key:=⟨j,e⟩) Z Z Z Z Z Z Z me Z Z Z ?_;refine WT.know (v':=.int .u32 (maskOf (BegL g (restL g ⟨j,e⟩)) t:Nat)) 62 Z (by exact hcur) ?_;refine zC4 ?_;have hp8:2 ^ t≤256:=Nat.le_trans (Nat.pow_le_pow_right (by decide) (show t≤8 by omega)) (by decide);refine WT.shl32 (x:=1) (y:=t) Z Z Z Z Z Z zo zo ?_;refine WT.or32 (x:=maskOf (BegL g (restL g ⟨j,e⟩)) t) (y:=1*2 ^ t) Z Z Z Z Z Z zo zo ?_;refine WT.know (v':=.int .u32 (maskOf (BegL g (restL g ⟨j,e⟩)) (t+1):Nat)) 65 Z (by rw[hnew,or_two_pow hlt]) ?_
     refine WT.mapEntry keyLr hT 4 0 (m:=eb) (key:=⟨j,e⟩) Z Z Z Z Z Z Z Z Z Z Z Z Z ?_;refine zC4 ?_;refine WT.entryStore keyLr 4 0 (m:=mIns eb ⟨j,e⟩ (.int .u32 0)) (key:=⟨j,e⟩) Z Z Z Z (by rw[idxK_mIns];rfl) Z Z Z (look_mIns _ _ _) Z Z ?_;rw[mset_mIns];refine zC4 ?_;refine⟨recs_bend rfl rfl (by decide) (fun h2 s2=>lookup_bend keyLr hT (m2:=mIns eb ⟨j,e⟩ (.int .u32 0)) Z Z Z Z Z Z (s2.has (p:=4) rfl me) (by rw[look_mIns];rfl)) (recs_pair rfl rfl keep0 trivial),?_⟩;refine⟨mset eb ⟨j,e⟩ (.int .u32 (maskOf (BegL g (restL g ⟨j,e⟩)) (t+1):Nat)),sM,zow,fun x hx=>?_,?_⟩
     ·rw[bOf_mset,if_neg hx];exact hoth x hx
     ·rw[bOf_mset,if_pos rfl]
    ·have hno:¬BegL g (restL g ⟨j,e⟩) t:=fun h2=>by rw[hbit.2 h2] at h;cases h
     refine zC4 ?_;refine⟨eb,sM,zow,hoth,?_⟩;rw[hcur];show _=Value.int .u32 ((_+(if _ then 2 ^ t else 0):Nat):Int);rw[if_neg (fun h2=>hno (@of_decide_eq_true _ (Classical.propDecidable _) h2)),Nat.add_zero]
   ·intro eb F7 hF7 hI2;obtain⟨hoth,hcur⟩:=hI2;refine zC4 ?_;refine WT.mapSet keyLr hT 3 0 (m:=s.ee) (key:=⟨j,e⟩) Z Z Z Z Z Z Z Z Z Z Z Z ?_;refine zC4 ?_;refine⟨⟨eb,mset s.ee ⟨j,e⟩ (.bool emp)⟩,sM,zow,fun x=>?_⟩;have hemp:emp=eM g ⟨j,e⟩:=by
     unfold eM;cases emp with
     | true=>exact(@decide_eq_true _ (Classical.propDecidable _) (hlst.2.1 rfl)).symm
     | false=>exact(@decide_eq_false _ (Classical.propDecidable _) (fun h=>by have:=hlst.2.2 h;cases this)).symm
    by_cases hx:x=⟨j,e⟩
    ·subst hx;refine⟨fun _=>⟨hcur,?_⟩,fun h=>absurd (.inr ⟨rfl,Nat.lt_succ_self _⟩) h⟩;rw[eOf_mset,if_pos rfl,hemp]
    ·obtain⟨h1,h2⟩:=hI x;have hD:doneM g j (e+1) x↔doneM g j e x:=by
      obtain⟨xr,xd⟩:=x;unfold doneM;simp only[Lr.mk.injEq,not_and] at hx;constructor
      ·rintro(h | ⟨h3,h4⟩)
       ·exact .inl h
       ·exact .inr ⟨h3,by have:=hx h3;have h4:xd<e+1:=h4;show xd<e;omega⟩
      ·rintro(h | ⟨h3,h4⟩)
       ·exact .inl h
       ·exact .inr ⟨h3,by dsimp only at h4 ⊢;omega⟩
     refine⟨fun h=>?_,fun h=>?_⟩
     ·obtain⟨h3,h4⟩:=h1 (hD.1 h);refine⟨by rw[hoth x hx];exact h3,?_⟩;rw[eOf_mset,if_neg hx];exact h4
     ·rw[hoth x hx];exact h2 fun h3=>h (hD.2 h3)
  ·intro s F4 hF4 hI;refine⟨s,sM,zow,hI.congr fun x=>?_⟩;unfold doneM;constructor
   ·rintro(⟨h1,h2⟩ | ⟨h1,h2⟩)
    ·exact .inl ⟨by omega,h2⟩
    ·exact .inl ⟨by omega,by rw[h1];omega⟩
   ·rintro(⟨h1,h2⟩ | ⟨h1,h2⟩)
    ·by_cases h3:x.rule<j
     ·exact .inl ⟨h3,h2⟩
     ·obtain h3:x.rule=j:=by omega
      exact .inr ⟨h3,by rw[h3] at h2;omega⟩
    ·omega
 ·intro s F2 hF2 hI;refine zC4 ?_;refine AW.freezeAll 0 Z Z (fun F3 hF3 hB3=>?_);refine AW.freezeAll 1 Z Z (fun F4 hF4 hB4=>?_);refine AW.freezeAll 2 Z Z (fun F5 hF5 hB5=>?_);have hdone:∀x y,afterL g x=some y→doneM g (m+1) 0 x:=fun x y h=>by
   rw[afterL_right] at h;have h2:=(gS h).1;refine .inl ⟨?_,h2⟩;rcases Nat.lt_or_ge g.rules.length x.rule with h3 | h3
   ·unfold rightL at h2;rw[if_neg zo,List.getElem?_eq_none (l:=g.rules) (i:=x.rule) zo] at h2;simp at h2
   ·omega
  have hF25:=((hF2.trans hF3).trans hF4).trans hF5;refine AW.ret ⟨_,[],⟨_,_,rfl,rfl,rfl⟩,zsb,rfl,im,E,Fi,is,s.eb,s.ee,rfl,⟨ib,ie,false,hF5 _ _ (hF4 _ _ (hB3 im _ me)),hB5 ib _ me,hF5 _ _ (hB4 ie _ me)⟩,hS.mono hF25,hFS,fun x y h=>((hI x).1 (hdone x y h)).1,fun x y h=>((hI x).1 (hdone x y h)).2⟩
noncomputable def giveM(g:Gram)(x:Lr)(m:Nat):Nat:=if eM g x=true then bM g x ||| m else bM g x
theorem bM_lt(g:Gram)(x:Lr):bM g x<2 ^ (g.terms+1):=Nat.lt_of_lt_of_le (maskOf_lt _ _) (Nat.pow_le_pow_right (by decide) (Nat.le_succ _))
theorem giveM_lt{g:Gram}{x:Lr}{m:Nat}(h:m<2 ^ (g.terms+1)):giveM g x m<2 ^ (g.terms+1):=by
 unfold giveM;split
 ·exact Nat.or_lt_two_pow (bM_lt g x) h
 ·exact bM_lt g x
theorem giveM_bit{g:Gram}(hg:Valid g){x:Lr}{m t:Nat}:(giveM g x m).testBit t=true↔BegL g (restL g x) t∨(NulL g (restL g x)∧m.testBit t=true):=by
 have hb:(bM g x).testBit t=true↔BegL g (restL g x) t:=by
  unfold bM;rw[maskOf_bit];exact⟨fun h=>h.2,fun h=>⟨rest_lt hg h,h⟩⟩
 have he:eM g x=true↔NulL g (restL g x):=⟨fun h=>@of_decide_eq_true _ (Classical.propDecidable _) h,fun h=>@decide_eq_true _ (Classical.propDecidable _) h⟩;unfold giveM;split
 ·rename_i h;rw[Nat.testBit_or,Bool.or_eq_true,hb];exact⟨fun h2=>h2.imp id fun h3=>⟨he.1 h,h3⟩,fun h2=>h2.imp id fun h3=>h3.2⟩
 ·rename_i h;rw[hb];exact⟨.inl,fun h2=>h2.resolve_right fun h3=>h (he.2 h3.1)⟩
theorem pow_small{g:Gram}(ht:g.terms≤8):2 ^ (g.terms+1)≤512:=Nat.le_trans (Nat.pow_le_pow_right (by decide) (show g.terms+1≤9 by omega)) (by decide)
theorem give_spec(F:Frz)(g:Gram)(hg:Valid g){im is:Nat}{a:Option Addr}{m c:Nat}{E:List Bool}{Fi:List (List Bool)}{eb ee:Ents Lr}(hM:MakerF F im g a m c E Fi is eb ee)(x:Lr){y:Sym}(hx:afterL g x=some y)(s:Nat)(hs:s<2 ^ (g.terms+1)) :
  Abs.Spec CC 87 [.pointer (some ⟨im,0,none⟩),.agg ⟨[.int .i64 x.rule,.int .i64 x.dot,.int .u32 s]⟩] F [] fun _ v o=>o=[]∧v=.int .u32 (giveM g x s:Nat):=by
 obtain⟨ib,ie,ro,h1,h2,h3⟩:=hM.blk;have hb:=hM.beg x y hx;have he:=hM.nul x y hx;have hp:=pow_small hg.range.terms.2;have hbl:=bM_lt g x;refine Abs.Spec.fn (n:=25) Tryz.func87 rfl rfl fun own=>?_;refine AW.seq (AW.reg ?_);refine WT.boxT Z Z Z Z Z Z (fun i3 hi3=>?_);refine zC4 ?_;refine WT.lookupF keyLr hT (m:=eb) (key:=x) Z Z Z Z Z Z h2 Z Z Z ?_;refine WT.know (v':=.int .u32 (bM g x:Nat)) 12 Z (by exact hb) ?_;refine zC4 ?_;refine WT.lookupF keyLr hT (m:=ee) (key:=x) Z Z Z Z Z Z h3 Z Z Z ?_;refine WT.know (v':=.bool (eM g x)) 19 Z (by exact he) ?_;refine zC4 ?_
 refine AW.cond Z (fun h=>?_) (fun h=>?_)
 ·refine zC4 ?_;refine WT.or32 (x:=bM g x) (y:=s) Z Z Z Z Z Z zo zo ?_;refine zC4 ?_;refine AW.ret ⟨_,[],⟨_,_,rfl,rfl,rfl⟩,zsb,rfl,?_⟩;unfold giveM;rw[if_pos h];rfl
 ·refine zC4 ?_;refine AW.ret ⟨_,[],⟨_,_,rfl,rfl,rfl⟩,zsb,rfl,?_⟩;unfold giveM;rw[if_neg (by rw[h];simp)];rfl
def SetR(g:Gram)(es:Ents Lr)(S:Lr→Nat):Prop:=∀z,bOf es z=.int .u32 (S z:Nat)∧S z<2 ^ (g.terms+1)
def updS(S:Lr→Nat)(x:Lr)(v:Nat):Lr→Nat:=fun z=>if z=x then v else S z
theorem SetR.put{g:Gram}{es:Ents Lr}{S:Lr→Nat}(h:SetR g es S)(x:Lr){v:Nat}(hv:v<2 ^ (g.terms+1)):SetR g (mset es x (.int .u32 (v:Nat))) (updS S x v):=fun z=>by
 rw[bOf_mset];unfold updS;split
 ·exact⟨rfl,hv⟩
 ·exact h z
structure ClS where
 a:Option Addr
 m:Nat
 c:Nat
 B:List (Nat×Blk)
 es:Ents Lr
def BaseS(l:List Look)(S:Lr→Nat):Prop:=∀z t,(S z).testBit t=true↔∃m,(⟨z,m⟩:Look)∈l∧m.testBit t=true
theorem itemsK_snoc(l:List Look)(x:Look):itemsK (l++[x])=itemsK l++[x.item]:=by unfold itemsK;simp
theorem BaseS.snoc{l:List Look}{S:Lr→Nat}(h:BaseS l S)(x:Look):BaseS (l++[x]) (updS S x.item (S x.item ||| x.set)):=fun z t=>by
 obtain⟨xi,xs⟩:=x;unfold updS;constructor
 ·intro h1;split at h1
  ·rename_i e;subst e;rw[Nat.testBit_or,Bool.or_eq_true] at h1;rcases h1 with h1 | h1
   ·obtain⟨m,h2,h3⟩:=(h z t).1 h1;exact⟨m,List.mem_append_left _ h2,h3⟩
   ·exact⟨xs,List.mem_append_right _ (List.mem_singleton_self _),h1⟩
  ·obtain⟨m,h2,h3⟩:=(h z t).1 h1;exact⟨m,List.mem_append_left _ h2,h3⟩
 ·rintro⟨m,h2,h3⟩;rcases List.mem_append.1 h2 with h2 | h2
  ·have h4:=(h z t).2 ⟨m,h2,h3⟩;split
   ·rename_i e;dsimp only at e ⊢;rw[e] at h4;rw[Nat.testBit_or,h4];rfl
   ·exact h4
  ·have e:=List.mem_singleton.1 h2;simp only[Look.mk.injEq] at e;obtain⟨rfl,rfl⟩:=e;rw[if_pos rfl,Nat.testBit_or,h3,Bool.or_true]
theorem MakerF.mono{F G:Frz}{im is:Nat}{g:Gram}{a:Option Addr}{m c:Nat}{E:List Bool}{Fi:List (List Bool)}{eb ee:Ents Lr}(h:MakerF F im g a m c E Fi is eb ee)(hF:Frz.le F G):MakerF G im g a m c E Fi is eb ee:=by
 obtain⟨ib,ie,ro,h1,h2,h3⟩:=h.blk;exact⟨⟨ib,ie,ro,hF _ _ h1,hF _ _ h2,hF _ _ h3⟩,h.sets.mono hF,h.fset,h.beg,h.nul⟩
theorem okLr_lr{g:Gram}{x:Lr}(h:OkLr g x):LrOk g x:=by
 refine⟨h.1,?_⟩;have h2:=h.2;unfold rightL at h2;split at h2
 ·rename_i e;rw[if_pos e];exact h2
 ·rename_i e;rw[if_neg e];cases hq:g.rules[x.rule]? with
  | none=>rw[hq] at h2;exact h2
  | some r=>rw[hq] at h2;exact h2
structure CfS where
 es:Ents Lr
 S:Lr→Nat
 again:Bool
def SndS(g:Gram)(l:List Look)(S:Lr→Nat):Prop:=∀z t,(S z).testBit t=true→LAc g l z t
def FedS(g:Gram)(S:Lr→Nat)(x:Lr):Prop:=∀(k:Nat) (r:Rule),afterL g x=some ⟨false,r.left⟩→g.rules[k]?=some r→∀t,(giveM g x (S x)).testBit t=true→(S ⟨k,0⟩).testBit t=true
def wS(g:Gram)(S:Lr→Nat):Nat:=((List.range g.rules.length).map fun k=>512-S ⟨k,0⟩).sum
theorem sum_lt_at2{f h:Nat→Nat}:∀{n i:Nat},i<n→(∀j,j≠i→f j=h j)→f i<h i→((List.range n).map f).sum<((List.range n).map h).sum
 | 0,_,hi,_,_=>by omega
 | n+1,i,hi,he,hl=>by
  rw[List.range_succ,List.map_append,List.map_append,List.sum_append,List.sum_append];simp only[List.map_cons,List.map_nil,List.sum_cons,List.sum_nil,Nat.add_zero];by_cases e:i=n
  ·subst e;have:(List.range i).map f=(List.range i).map h:=List.map_congr_left fun j hj=>he j (by have:=List.mem_range.1 hj;omega);rw[this];omega
  ·have h1:=sum_lt_at2 (n:=n) (i:=i) zo he hl;have h2:=he n (fun e2=>e e2.symm);omega
theorem updS_self(S:Lr→Nat)(x:Lr)(v:Nat):updS S x v x=v:=by unfold updS;rw[if_pos rfl]
theorem updS_ne{S:Lr→Nat}{x z:Lr}{v:Nat}(h:z≠x):updS S x v z=S z:=by unfold updS;rw[if_neg h]
theorem wS_put{g:Gram}{S:Lr→Nat}{k v:Nat}(hk:k<g.rules.length)(hS:∀z,S z<512)(hv:v<512)(hlt:S ⟨k,0⟩<v):wS g (updS S ⟨k,0⟩ v)<wS g S:=by
 unfold wS;refine sum_lt_at2 hk (fun j hj=>?_) ?_
 ·rw[updS_ne (fun e=>hj (by injection e))]
 ·rw[updS_self];have:=hS ⟨k,0⟩;omega
theorem or_gt{x y:Nat}(h:andNot y x≠0)(hx:x<4294967296)(hy:y<4294967296):x<x ||| y:=by
 refine Nat.lt_of_le_of_ne Nat.left_le_or fun e=>h ?_;rw[andNot_zero hy hx];intro j hj;rw[e,Nat.testBit_or,hj,Bool.or_true]
theorem SndS.put{g:Gram}{l:List Look}{S:Lr→Nat}(h:SndS g l S){x:Lr}{v:Nat}(hv:∀t,v.testBit t=true→LAc g l x t):SndS g l (updS S x (S x ||| v)):=fun z t ht=>by
 unfold updS at ht;split at ht
 ·rename_i e;subst e;rw[Nat.testBit_or,Bool.or_eq_true] at ht;exact ht.elim (h _ t) (hv t)
 ·exact h z t ht
theorem updS_mono{S:Lr→Nat}{x:Lr}{v:Nat}{z:Lr}{t:Nat}(h:(S z).testBit t=true):(updS S x (S x ||| v) z).testBit t=true:=by
 unfold updS;split
 ·rename_i e;rw[←e,Nat.testBit_or,h];rfl
 ·exact h
theorem closeK_spec(F:Frz)(g:Gram)(hg:Valid g){im is:Nat}{a:Option Addr}{m c:Nat}{E:List Bool}{Fi:List (List Bool)}{eb ee:Ents Lr}(hM:MakerF F im g a m c E Fi is eb ee)
  {b:Option Addr} {n d:Nat} {l:List Look} (hl:Arr tLook F b n d l) (hn:n≤1000) (hok:∀x∈l,OkLr g x.item∧x.set<2 ^ (g.terms+1)) :
  Abs.Spec CC 66 [.pointer (some ⟨im,0,none⟩),.slice b n d] F [] fun F' v o=>o=[]∧∃a' n' c',v=.slice a' n' c'∧Arr tLook F' a' n' c' (closeK g l):=by
 obtain⟨ib,ie,ro,h1,h2,h3⟩:=hM.blk;have hp:=pow_small hg.range.terms.2;have hll:=hl.len;have hr:=hM.sets.rules;have hrl:=hr.len;have hgr:=hg.range.rules;refine Abs.Spec.fn (n:=134) Tryz.func66 rfl rfl fun own=>?_;refine zC4 ?_;refine WT.makeMap Z Z Z Z (fun iq hiq=>?_);refine zC4 ?_;refine AW.range (S:=ClS) (fun s=>[(5,.slice s.a s.m s.c)]) (fun s=>s.B::[(iq,.map (entsV keyLr s.es))]::own) (fun j s G=>Bld tLr G s.a s.m s.c s.B (itemsK (l.take j))∧∃S,SetR g s.es S∧BaseS (l.take j) S) n ⟨none,0,0,[],[]⟩
  Z Z Z Z Z Z Z Z Z zo rfl rfl (fun _=>rfl) (fun _=>rfl) sM (OwnLe.flat (List.Perm.refl _)) ⟨Bld.nil_ _ _,fun _=>0,fun z=>⟨rfl,Nat.two_pow_pos _⟩,fun z t=>by simp⟩ ?_ ?_
 ·intro j s F1 hF1 hj hI;obtain⟨hb,S,hS,hB⟩:=hI;have hl1:=hl.mono hF1;have hbl:=hb.len;unfold itemsK at hbl;rw[List.length_map,List.length_take] at hbl;refine zC4 ?_;refine WT.idxL hT hl1 Z Z Z Z Z Z Z Z Z zo (fun x hxj b1 off1 ro1 cs1 lx1 hb1 hp1 hrel1=>?_);obtain rfl:lx1=_:=hrel1;obtain⟨hxo,hxs⟩:=hok x (gM hxj);have htk:l.take (j+1)=l.take j++[x]:=by rw[List.take_add_one,hxj];rfl
  refine zC4 ?_;refine WT.allocT hT Z Z Z Z Z Z (fun i8 hi8=>?_);refine zC4 ?_;refine WT.buildT hT Z Z Z Z Z Z Z Z Z Z Z Z Z Z (fun i33 hi33=>?_);refine WT.appendT (R:=tLr) (ys:=[x.item]) hT 2 hb Z (fun _=>rfl) Z Z Z Z Z Z Z Z Z Z Z (fun h0 s0=>news_own hT s0 0 Z Z Z Z) (Cells.single (R:=tLr) (x:=x.item) rfl) Z (by decide) zom (fun a3 c3 B3 hB3=>?_);refine zC4 ?_;refine AW.draw (ps:=[(3,7),(6,7)]) Z Z ?_;refine zC4 ?_;refine WT.lookup1B keyLr hT 3 (m:=s.es) (key:=x.item) Z Z Z Z Z Z Z me Z Z Z ?_;refine WT.know (v':=.int .u32 (S x.item:Nat)) 38 Z (by exact(hS x.item).1) ?_
  have hSx:=(hS x.item).2;refine zC4 ?_;refine WT.or32 (x:=S x.item) (y:=x.set) Z Z Z Z Z Z zo zo ?_;refine WT.mapEntry keyLr hT 3 0 (m:=s.es) (key:=x.item) Z Z Z Z Z Z Z Z Z Z Z Z Z ?_;refine zC4 ?_;refine WT.entryStore keyLr 3 0 (m:=mIns s.es x.item (.int .u32 0)) (key:=x.item) Z Z Z Z (by rw[idxK_mIns];rfl) Z Z Z (look_mIns _ _ _) Z Z ?_;rw[mset_mIns];refine zC4 ?_;refine⟨recs_bend rfl rfl (by decide) (fun h2 s2=>lookup_bend keyLr hT (m2:=mIns s.es x.item (.int .u32 0)) Z Z Z Z Z Z (s2.has (p:=3) rfl me) (by rw[look_mIns];rfl)) (recs_pair rfl rfl keep0 trivial),?_⟩
  refine⟨⟨a3,s.m+1,c3,B3,mset s.es x.item (.int .u32 (S x.item ||| x.set:Nat))⟩,sM,zow,?_,updS S x.item (S x.item ||| x.set),hS.put _ (Nat.or_lt_two_pow hSx hxs),?_⟩
  ·rw[htk,itemsK_snoc];exact hB3
  ·rw[htk];exact hB.snoc x
 ·intro s F1 hF1 hI;obtain⟨hb,S,hS,hB⟩:=hI;rw[List.take_of_length_le zo] at hb hB;refine AW.freezeAll 0 Z Z (fun F2 hF2 hB2=>?_);have hcore:=hb.frozen hF2 hB2;have hbl:=hb.len;unfold itemsK at hbl;rw[List.length_map] at hbl;have hr2:=(hr.mono hF1).mono hF2;have hM2:=(hM.mono hF1).mono hF2;have h12:=hF2 _ _ (hF1 _ _ h1);have hlr:∀x∈itemsK l,OkLr g x:=fun x hx=>by
   obtain⟨y,hy,rfl⟩:=List.mem_map.1 hx;exact(hok y hy).1
  refine zC4 ?_;have hcl:=lrClose_spec F2 g hg hr2 hcore zo (fun x hx=>okLr_lr (hlr x hx));unfold gramCells at hcl;refine WT.callF0 Tryz.func86 Z Z Z Z Z Z hcl (fun F3 v hF3 hv=>?_);obtain⟨a8,m8,c8,zs,rfl,hz,hzm,hstr,hmem⟩:=hv;obtain rfl:zs=closL g (itemsK l):=closL_eq hlr hstr hmem;have hzl:=hz.len;have hr3:=hr2.mono hF3;have hM3:=hM2.mono hF3;have h13:=hF3 _ _ h12;refine zC4 ?_;refine AW.block ?_
  refine AW.loopR (S:=CfS) (fun s=>[(11,.bool s.again)]) (fun s=>[]::[(iq,.map (entsV keyLr s.es))]::own) (fun s G=>SetR g s.es s.S∧SndS g l s.S∧(∀z t,(∃m,(⟨z,m⟩:Look)∈l∧m.testBit t=true)→(s.S z).testBit t=true)∧(s.again=false→∀x∈closL g (itemsK l),FedS g s.S x)) (fun s=>if s.again=true then 1+wS g s.S else 0)
   ⟨s.es,S,true⟩ sM oR ⟨hS,fun z t ht=>?_,fun z t ht=>(hB z t).2 ht,fun h=>(by cases h)⟩ ?_
  ·obtain⟨m,h4,h5⟩:=(hB z t).1 ht;refine .base h4 h5 ?_;have:=(hok _ h4).2;rcases Nat.lt_or_ge g.terms t with h6 | h6
   ·rw[Nat.testBit_lt_two_pow (Nat.lt_of_lt_of_le this (Nat.pow_le_pow_right (by decide) h6))] at h5;cases h5
   ·exact h6
  intro s F4 hF4 hI;obtain⟨hS,hsnd,hbase,hfed⟩:=hI;have hz4:=hz.mono hF4;have hr4:=hr3.mono hF4;have hM4:=hM3.mono hF4;have h14:=hF4 _ _ h13;refine zC4 ?_;refine AW.cond Z (fun h=>?_) (fun h=>?_)
  ·refine zC4 ?_;refine AW.block ?_;refine zC4 ?_;refine AW.range (S:=CfS) (fun s=>[(11,.bool s.again)]) (fun s=>[]::[(iq,.map (entsV keyLr s.es))]::own) (fun j u G=>SetR g u.es u.S∧SndS g l u.S∧(∀z t,(s.S z).testBit t=true→(u.S z).testBit t=true)∧wS g u.S≤wS g s.S∧(u.again=true→wS g u.S<wS g s.S)∧(u.again=false→u.S=s.S∧∀x∈(closL g (itemsK l)).take j,FedS g s.S x)) m8 ⟨s.es,s.S,false⟩
    Z Z Z Z Z Z Z Z Z zo rfl rfl (fun _=>rfl) (fun _=>rfl) sM oR ⟨hS,hsnd,fun _ _ h=>h,Nat.le_refl _,fun h=>(by cases h),fun _=>⟨rfl,by simp⟩⟩ ?_ ?_
   ·intro j u F5 hF5 hj hI;obtain⟨huS,husnd,humono,hule,hult,hufed⟩:=hI;have hz5:=hz4.mono hF5;have hr5:=hr4.mono hF5;have hM5:=hM4.mono hF5;have h15:=hF5 _ _ h14;refine zC4 ?_;refine WT.idxL hT hz5 Z Z Z Z Z Z Z Z Z zo (fun x hxj b1 off1 ro1 cs1 lx1 hb1 hp1 hrel1=>?_);obtain rfl:lx1=_:=hrel1;have hxm:=gM hxj;have hxo:=closL_ok x hxm;have htk:(closL g (itemsK l)).take (j+1)=(closL g (itemsK l)).take j++[x]:=by rw[List.take_add_one,hxj];rfl
    refine zC4 ?_;refine WT.allocT hT Z Z Z Z Z Z (fun i13 hi13=>?_);refine zC4 ?_;refine AW.draw (ps:=[(3,9),(4,9)]) Z Z ?_;refine zC4 ?_;have haf:=lrAfter_spec F5 g (fun r h=>by have:=(hg.right r h).2.1;omega) hr5 zo x (by have:=hxo.1;omega);unfold gramCells at haf;refine WT.callV Tryz.func69 Z Z Z Z Z Z haf (fun v hv=>?_);obtain⟨y,bo,rfl,hay,han⟩:=hv;obtain⟨yt,yn⟩:=y;refine zC4 ?_;refine WT.allocT hT Z Z Z Z Z Z (fun i14 hi14=>?_);refine zC4 ?_;refine⟨zrC,?_⟩;refine zC4 ?_
    have hskip:(∀n,afterL g x≠some ⟨false,n⟩)→u.again=false→u.S=s.S∧∀z∈(closL g (itemsK l)).take (j+1),FedS g s.S z:=fun hno hag=>by
     obtain⟨q1,q2⟩:=hufed hag;refine⟨q1,fun z hz=>?_⟩;rw[htk] at hz;rcases List.mem_append.1 hz with hz | hz
     ·exact q2 z hz
     ·rw[List.mem_singleton.1 hz];exact fun k r h1 _ _ _=>absurd h1 (hno _)
    refine WT.split 72 Z (fun hok=>?_) (fun hok=>?_)
    ·have hok:bo=false:=by simpa using hok
     refine zC4 ?_;refine AW.cond Z (fun _=>?_) (fun h=>(by simp at h));refine AW.exit ?_;refine⟨u,sM,zow,huS,husnd,humono,hule,hult,hskip fun n h=>?_⟩;rw[han hok] at h;cases h
    ·have hok:bo=true:=by simpa using hok
     subst hok;refine zC4 ?_;refine AW.cond Z (fun h3=>?_) (fun h3=>?_)
     ·have h3:yt=true:=by simpa using h3
      refine AW.exit ?_;refine⟨u,sM,zow,huS,husnd,humono,hule,hult,hskip fun n h=>?_⟩;rw[hay rfl,h3] at h;cases h
     have h3:yt=false:=by simpa using h3
     subst h3;have hay:=hay rfl;refine zC4 ?_;refine WT.lookup1 keyLr hT 3 (m:=u.es) (key:=x) Z Z Z Z Z Z Z me Z Z Z ?_;refine WT.know (v':=.int .u32 (u.S x:Nat)) 80 Z (by exact(huS x).1) ?_;have huSx:=(huS x).2;refine zC4 ?_;refine WT.callV Tryz.func87 Z Z Z Z Z Z (give_spec F5 g hg hM5 x hay (u.S x) huSx) (fun v hv=>?_);subst hv;have hadl:=giveM_lt (g:=g) (x:=x) huSx;refine zC4 ?_
     refine AW.range (S:=CfS) (fun s=>[(11,.bool s.again)]) (fun s=>[(i14,Blk.cells false [.bool false,.int .i64 yn])]::[(i13,Blk.cells false [.int .i64 x.rule,.int .i64 x.dot])]::[]::[(iq,.map (entsV keyLr s.es))]::own) (fun j v G=>SetR g v.es v.S∧SndS g l v.S∧(∀z t,(s.S z).testBit t=true→(v.S z).testBit t=true)∧wS g v.S≤wS g s.S∧(v.again=true→wS g v.S<wS g s.S)∧(v.again=false→u.again=false∧v.S=u.S∧∀(k:Nat) (r:Rule),k<j→afterL g x=some ⟨false,r.left⟩→g.rules[k]?=some r→∀t,(giveM g x (u.S x)).testBit t=true→(v.S ⟨k,0⟩).testBit t=true)) m u
      Z Z Z Z Z Z Z Z Z zo rfl rfl (fun _=>rfl) (fun _=>rfl) sM oR ⟨huS,husnd,humono,hule,hult,fun h=>⟨h,rfl,fun k r h=>absurd h (Nat.not_lt_zero _)⟩⟩ ?_ ?_
     ·intro k v F6 hF6 hk hI;obtain⟨hvS,hvsnd,hvmono,hvle,hvlt,hvfed⟩:=hI;have hr6:=hr5.mono hF6;refine zC4 ?_;refine WT.idxL hT hr6 Z Z Z Z Z Z Z Z Z zo (fun r hrk b5 off5 ro5 cs5 lx5 hb5 hp5 hrel5=>?_);obtain⟨ra,rn,rc,rfl,hra⟩:=hrel5;refine zC4 ?_;refine WT.allocT hT Z Z Z Z Z Z (fun i18 hi18=>?_);refine zC4 ?_;refine WT.allocT hT Z Z Z Z Z Z (fun i19 hi19=>?_);refine zC4 ?_;have hvk:=hvS ⟨k,0⟩;have hv5:∀z,v.S z<512:=fun z=>Nat.lt_of_lt_of_le (hvS z).2 hp;refine WT.split 101 Z (fun hl=>?_) (fun hl=>?_)
      ·have hl:r.left=yn:=by simp at hl;omega
       refine zC4 ?_;refine WT.lookup1 keyLr hT 5 (m:=v.es) (key:=⟨k,0⟩) Z Z Z Z Z Z Z me Z Z Z ?_;refine WT.know (v':=.int .u32 (v.S ⟨k,0⟩:Nat)) 105 Z (by exact hvk.1) ?_;refine WT.andNot32 (x:=giveM g x (u.S x)) (y:=v.S ⟨k,0⟩) Z Z Z Z Z Z zo (by have:=hv5 ⟨k,0⟩;omega) ?_;refine zC4 ?_;refine AW.cond Z (fun hc=>?_) (fun hc=>?_)
       ·have hc:andNot (giveM g x (u.S x)) (v.S ⟨k,0⟩)≠0:=by simpa using hc
        refine zC4 ?_;refine AW.draw (ps:=[(2,5),(4,5)]) Z Z ?_;refine zC4 ?_;refine WT.lookup1B keyLr hT 5 (m:=v.es) (key:=⟨k,0⟩) Z Z Z Z Z Z Z me Z Z Z ?_;refine WT.know (v':=.int .u32 (v.S ⟨k,0⟩:Nat)) 111 Z (by exact hvk.1) ?_;refine zC4 ?_;refine WT.or32 (x:=v.S ⟨k,0⟩) (y:=giveM g x (u.S x)) Z Z Z Z Z Z (by have:=hv5 ⟨k,0⟩;omega) zo ?_;refine WT.mapEntry keyLr hT 5 0 (m:=v.es) (key:=⟨k,0⟩) Z Z Z Z Z Z Z Z Z Z Z Z Z ?_;refine zC4 ?_;refine WT.entryStore keyLr 5 0 (m:=mIns v.es ⟨k,0⟩ (.int .u32 0)) (key:=⟨k,0⟩) Z Z Z Z (by rw[idxK_mIns];rfl) Z Z Z (look_mIns _ _ _) Z Z ?_;rw[mset_mIns]
        refine zC4 ?_;refine⟨recs_bend rfl rfl (by decide) (fun h2 s2=>lookup_bend keyLr hT (m2:=mIns v.es ⟨k,0⟩ (.int .u32 0)) Z Z Z Z Z Z (s2.has (p:=5) rfl me) (by rw[look_mIns];rfl)) (recs_pair rfl rfl keep0 trivial),?_⟩;refine zC4 ?_;have hput:=hvS.put ⟨k,0⟩ (Nat.or_lt_two_pow hvk.2 hadl);have hw:=wS_put (g:=g) (S:=v.S) (k:=k) (v:=v.S ⟨k,0⟩ ||| giveM g x (u.S x)) zo hv5 (Nat.lt_of_lt_of_le (Nat.or_lt_two_pow hvk.2 hadl) hp) (or_gt hc (by have:=hv5 ⟨k,0⟩;omega) zo)
        refine⟨⟨mset v.es ⟨k,0⟩ (.int .u32 (v.S ⟨k,0⟩ ||| giveM g x (u.S x):Nat)),updS v.S ⟨k,0⟩ (v.S ⟨k,0⟩ ||| giveM g x (u.S x)),true⟩,sM,zow,hput,hvsnd.put fun t ht=>?_,fun z t ht=>updS_mono (hvmono z t ht),by dsimp only;omega,fun _=>by dsimp only;omega,fun h=>by cases h⟩
        rcases (giveM_bit hg).1 ht with h7 | ⟨h7,h8⟩
        ·exact .beg ((mem_closL hlr).1 hxm) (hl▸hay) hrk h7
        ·exact .pass ((mem_closL hlr).1 hxm) (hl▸hay) hrk h7 (husnd _ _ h8)
       ·have hc:andNot (giveM g x (u.S x)) (v.S ⟨k,0⟩)=0:=by simpa using hc
        refine zC4 ?_;refine⟨v,sM,zow,hvS,hvsnd,hvmono,hvle,hvlt,fun hag=>?_⟩;obtain⟨q1,q2,q3⟩:=hvfed hag;refine⟨q1,q2,fun k2 r2 hk2 e1 e2 t ht=>?_⟩;rcases Nat.lt_or_ge k2 k with h6 | h6
        ·exact q3 k2 r2 h6 e1 e2 t ht
        ·obtain rfl:k2=k:=by omega
         exact(andNot_zero zo (by have:=hv5 ⟨k2,0⟩;omega)).1 hc t ht
      ·have hl:r.left≠yn:=by simp at hl;omega
       refine zC4 ?_;refine AW.cond Z (fun hc=>(by simp at hc)) (fun _=>?_);refine zC4 ?_;refine⟨v,sM,zow,hvS,hvsnd,hvmono,hvle,hvlt,fun hag=>?_⟩;obtain⟨q1,q2,q3⟩:=hvfed hag;refine⟨q1,q2,fun k2 r2 hk2 e1 e2 t ht=>?_⟩;rcases Nat.lt_or_ge k2 k with h6 | h6
       ·exact q3 k2 r2 h6 e1 e2 t ht
       ·obtain rfl:k2=k:=by omega
        rw[hrk] at e2;rw[hay] at e1;simp only[Option.some.injEq,Sym.mk.injEq] at e1 e2;exact absurd (by rw[e2];exact e1.2.symm) hl
     ·intro v F6 hF6 hI;obtain⟨hvS,hvsnd,hvmono,hvle,hvlt,hvfed⟩:=hI;refine⟨v,sM,zow,hvS,hvsnd,hvmono,hvle,hvlt,fun hag=>?_⟩;obtain⟨q1,q2,q3⟩:=hvfed hag;obtain⟨q4,q5⟩:=hufed q1;refine⟨by rw[q2,q4],fun z hz=>?_⟩;rw[htk] at hz;rcases List.mem_append.1 hz with hz | hz
      ·exact q5 z hz
      ·rw[List.mem_singleton.1 hz];intro k r e1 e2 t ht;rw[←q4] at ht ⊢;rw[←q2];exact q3 k r (by have:=(gS e2).1;omega) e1 e2 t ht
   ·intro u F5 hF5 hI;obtain⟨huS,husnd,humono,hule,hult,hufed⟩:=hI;rw[List.take_of_length_le zo] at hufed;refine⟨u,?_,sM,zow,huS,husnd,fun z t ht=>humono z t (hbase z t ht),fun hag=>?_⟩
    ·rw[if_pos h];split
     ·rename_i hag;have:=hult hag;omega
     ·omega
    ·obtain⟨q1,q2⟩:=hufed hag;rw[q1];exact q2
  ·refine AW.exit ?_;have hfed:=hfed h;have hfin:∀z,s.S z=maskOf (LAc g l z) (g.terms+1):=fun z=>by
    refine mask_uniq (hS z).2 fun t=>⟨fun ht=>⟨Nat.lt_succ_of_le ((hsnd z t ht).le hg),hsnd z t ht⟩,fun ht=>?_⟩;have ht2:=ht.2;clear ht
    induction ht2 with
    | base h4 h5 _=>exact hbase _ _ ⟨_,h4,h5⟩
    | beg h4 h5 h6 h7=>exact hfed _ ((mem_closL hlr).2 h4) _ _ h5 h6 _ ((giveM_bit hg).2 (.inl h7))
    | pass h4 h5 h6 h7 _ ih=>exact hfed _ ((mem_closL hlr).2 h4) _ _ h5 h6 _ ((giveM_bit hg).2 (.inr ⟨h7,ih⟩))
   refine zC4 ?_;refine AW.range (S:=ClS) (fun u=>[(20,.slice u.a u.m u.c)]) (fun u=>u.B::[]::[(iq,.map (entsV keyLr s.es))]::own) (fun j u G=>Bld tLook G u.a u.m u.c u.B (((closL g (itemsK l)).take j).map fun z=>⟨z,maskOf (LAc g l z) (g.terms+1)⟩)) m8 ⟨none,0,0,[],[]⟩
    Z Z Z Z Z Z Z Z Z zo rfl rfl (fun _=>rfl) (fun _=>rfl) sM (OwnLe.flat (List.Perm.refl _)) (Bld.nil_ _ _) ?_ ?_
   ·intro j u F5 hF5 hj hb;have hz5:=hz4.mono hF5;have hbl:=hb.len;rw[List.length_map,List.length_take] at hbl;refine zC4 ?_;refine WT.idxL hT hz5 Z Z Z Z Z Z Z Z Z zo (fun x hxj b1 off1 ro1 cs1 lx1 hb1 hp1 hrel1=>?_);obtain rfl:lx1=_:=hrel1;have htk:(closL g (itemsK l)).take (j+1)=(closL g (itemsK l)).take j++[x]:=by rw[List.take_add_one,hxj];rfl
    refine zC4 ?_;refine WT.allocT hT Z Z Z Z Z Z (fun i22 hi22=>?_);refine zC4 ?_;refine WT.lookup1 keyLr hT 3 (m:=s.es) (key:=x) Z Z Z Z Z Z Z me Z Z Z ?_;refine WT.know (v':=.int .u32 (maskOf (LAc g l x) (g.terms+1):Nat)) 128 Z (by rw[←hfin x];exact(hS x).1) ?_;refine zC4 ?_;refine WT.buildT hT Z Z Z Z Z Z Z Z Z Z Z Z Z Z (fun i33 hi33=>?_)
    refine WT.appendT (R:=tLook) (ys:=[⟨x,maskOf (LAc g l x) (g.terms+1)⟩]) hT 2 hb Z (fun _=>rfl) Z Z Z Z Z Z Z Z Z Z Z (fun h0 s0=>news_own hT s0 0 Z Z Z Z) (Cells.single (R:=tLook) (x:=⟨x,maskOf (LAc g l x) (g.terms+1)⟩) rfl) Z (by decide) zom (fun a3 c3 B3 hB3=>?_);refine zC4 ?_;refine⟨⟨a3,u.m+1,c3,B3,[]⟩,sM,zow,?_⟩;dsimp only;rw[htk,List.map_append];exact hB3
   ·intro u F5 hF5 hb;rw[List.take_of_length_le zo] at hb;refine AW.freezeAll 0 Z Z (fun F6 hF6 hB6=>?_);refine zC4 ?_;exact AW.ret ⟨_,[],⟨_,_,rfl,rfl,rfl⟩,zsb,rfl,_,_,_,rfl,hb.frozen hF6 hB6⟩
noncomputable def nextK(g:Gram)(st:List Look)(y:Sym):Option (List Look):=if kernK g st y=[] then none else some (closeK g (kernK g st y))
theorem kernK_take{g:Gram}{st:List Look}{y:Sym}{j:Nat}{x:Look}(h:st[j]?=some x):kernK g (st.take (j+1)) y=kernK g (st.take j) y++(if afterL g x.item=some y then [⟨⟨x.item.rule,x.item.dot+1⟩,x.set⟩] else []):=by
 unfold kernK;rw[List.take_add_one,h,List.filterMap_append];congr 1;simp only[Option.toList_some,List.filterMap_cons,List.filterMap_nil];by_cases e:afterL g x.item=some y
 ·rw[if_pos e,if_pos e]
 ·rw[if_neg e,if_neg e]
theorem kernK_ok{g:Gram}{st:List Look}{y:Sym}{B:Nat}(h:∀x∈st,x.set<B):∀x∈kernK g st y,OkLr g x.item∧x.set<B:=fun x hx=>by
 refine⟨?_,?_⟩
 ·have:=kern_ok (g:=g) (st:=itemsK st) (y:=y) x.item (by rw[←kernK_items];exact List.mem_map.2 ⟨x,hx,rfl⟩);exact this.1
 ·obtain⟨z,m⟩:=x;obtain⟨x2,h2,_,_⟩:=mem_kernK.1 hx;exact(h _ h2:m<B)
theorem okLr_dot{g:Gram}(hg:Valid g){x:Lr}(h:OkLr g x):x.dot≤100:=by have:=(okI hg h).2;omega
structure AfS where
 a:Option Addr
 m:Nat
 c:Nat
 B:List (Nat×Blk)
 l:List Look
theorem shE2{p:Prop} (h:p:=by
 refine WT.allocT hT Z Z Z Z Z Z (fun i9 hi9=>?_);refine zC4 ?_;refine AW.draw (ps:=[(3,10),(5,10)]) Z Z ?_;refine zC4 ?_;have haf:=lrAfter_spec F1 g hg4 hr1 zo x.item (by have:=hxo.1;omega);unfold gramCells at haf;refine WT.callV Tryz.func69 Z Z Z Z Z Z haf (fun v hv=>?_);obtain⟨z,bo,rfl,hay,han⟩:=hv;obtain⟨zt,zn⟩:=z;refine zC4 ?_;refine WT.allocT hT Z Z Z Z Z Z (fun i10 hi10=>?_);refine zC4 ?_;refine⟨zrC,?_⟩;refine zC4 ?_;have hbl:=hb.len;refine WT.split 30 Z (fun hbo=>?_) (fun hbo=>?_)
 ·have hay:=hay hbo;refine zC4 ?_;refine AW.cond Z (fun h=>?_) (fun h=>?_)
  ·have e:(⟨zt,zn⟩:Sym)=⟨yt,yn⟩:=by
    simp only[Bool.and_true,Bool.and_eq_true,beq_iff_eq] at h;obtain⟨h1,h2⟩:=h;subst h1;congr 1;omega
   rw[e] at hay;have hxd:=okLr_dot hg hxo;refine zC4 ?_;refine WT.buildT hT Z Z Z Z Z Z Z Z Z Z Z Z Z Z (fun i37 hi37=>?_);refine WT.appendT (R:=tLook) (ys:=[(⟨⟨x.item.rule,x.item.dot+1⟩,x.set⟩:Look)]) hT 3 hb Z (fun _=>rfl) Z Z Z Z Z Z Z Z Z Z Z (fun h0 s0=>news_own hT s0 0 Z Z Z Z) (Cells.single (R:=tLook) (x:=⟨⟨x.item.rule,x.item.dot+1⟩,x.set⟩) rfl) Z (by decide) zom (fun a3 c3 B3 hB3=>?_);refine zC4 ?_;refine⟨⟨a3,s.m+1,c3,B3,s.l++[⟨⟨x.item.rule,x.item.dot+1⟩,x.set⟩]⟩,sM,zow,hB3,?_,by dsimp only;omega⟩;show s.l++_=_;rw[hkt,if_pos hay,hsk]
  ·have hno:¬afterL g x.item=some ⟨yt,yn⟩:=fun e=>by
    rw[hay] at e;have e:=Option.some.inj e;simp only[Sym.mk.injEq] at e;rw[e.1,e.2] at h;simp at h
   refine zC4 ?_;refine⟨s,sM,zow,hb,?_,by omega⟩;rw[hkt,if_neg hno,List.append_nil];exact hsk
 ·have han:=han hbo;have hno:¬afterL g x.item=some ⟨yt,yn⟩:=fun e=>by rw[han] at e;cases e
  refine zC4 ?_;refine AW.cond Z (fun h=>(by cases h)) (fun _=>?_);refine zC4 ?_;refine⟨s,sM,zow,hb,?_,by omega⟩;rw[hkt,if_neg hno,List.append_nil];exact hsk):p:=h
theorem after_spec(F:Frz)(g:Gram)(hg:Valid g){im is:Nat}{a:Option Addr}{m c:Nat}{E:List Bool}{Fi:List (List Bool)}{eb ee:Ents Lr}(hM:MakerF F im g a m c E Fi is eb ee)
  {b:Option Addr} {n d:Nat} {st:List Look} (hst:Arr tLook F b n d st) (hn:n≤1000) (hok:∀x∈st,OkLr g x.item∧x.set<2 ^ (g.terms+1)) (y:Sym) :
  Abs.Spec CC 43 [.pointer (some ⟨im,0,none⟩),.slice b n d,.agg ⟨[.bool y.term,.int .i64 y.n]⟩] F [] fun F' v o=>o=[]∧∃a' n' c' z s,v=.tuple ⟨[.slice a' n' c',.bool z]⟩∧Arr tLook F' a' n' c' s∧nextK g st y=if z=true then some s else none:=by
 have hgr:=hg.range.rules;have hr:=hM.sets.rules;have hrl:=hr.len;have hsl:=hst.len;have hg4:∀r∈g.rules,r.right.length≤100:=fun r h=>by have:=(hg.right r h).2.1;omega
 obtain⟨ib,ie,ro,h1,h2,h3⟩:=hM.blk;obtain⟨yt,yn⟩:=y;refine Abs.Spec.fn (n:=56) Tryz.func43 rfl rfl fun own=>?_;refine AW.seq (AW.reg ?_);refine WT.boxT Z Z Z Z Z Z (fun i4 hi4=>?_);refine zC4 ?_;refine AW.range (S:=AfS) (fun s=>[(8,.slice s.a s.m s.c)]) (fun s=>s.B::[(i4,.cells false [.bool yt,.int .i64 yn])]::own) (fun j s G=>Bld tLook G s.a s.m s.c s.B s.l∧s.l=kernK g (st.take j) ⟨yt,yn⟩∧s.m≤j) n ⟨none,0,0,[],[]⟩
  Z Z Z Z Z Z Z Z Z zo rfl rfl (fun _=>rfl) (fun _=>rfl) sM (OwnLe.flat (List.Perm.refl _)) ⟨Bld.nil_ _ _,rfl,Nat.le_refl _⟩ ?_ ?_
 ·intro j s F1 hF1 hj hP;obtain⟨hb,hsk,hsm⟩:=hP;have hst1:=hst.mono hF1;have hr1:=hr.mono hF1;have h11:=hF1 _ _ h1;refine zC4 ?_;refine WT.idxL hT hst1 Z Z Z Z Z Z Z Z Z zo (fun x hxj b1 off ro1 cs lx hb1 hp1 hrel=>?_);obtain rfl:lx=_:=hrel;have hxo:=(hok x (gM hxj)).1;have hkt:=kernK_take (g:=g) (y:=⟨yt,yn⟩) hxj;refine zC4 ?_;exact shE2
 ·intro s F1 hF1 hP;obtain⟨hb,hsk,hsm⟩:=hP;rw[List.take_of_length_le zo] at hsk;have hbl:=hb.len;have hM1:=hM.mono hF1;refine AW.freezeAll 0 Z Z (fun F2 hF2 hB2=>?_);have hx:=hb.frozen hF2 hB2;have hM2:=hM1.mono hF2;have hkok:=kernK_ok (g:=g) (y:=⟨yt,yn⟩) (fun x hx=>(hok x hx).2);rw[←hsk] at hkok;refine zC4 ?_;refine AW.cond Z (fun h=>?_) (fun h=>?_)
  ·have h:s.m=0:=by simp at h;omega
   refine zC4 ?_;refine AW.ret ⟨_,[],⟨_,_,rfl,⟨_,_,rfl,rfl,rfl⟩,rfl⟩,zsb,rfl,none,0,0,false,[],rfl,Arr.nil_ _ _,?_⟩;unfold nextK;rw[if_pos (by rw[←hsk];exact List.length_eq_zero_iff.1 zo)];rfl
  ·have h:0<s.m:=by simp at h;omega
   refine zC4 ?_;refine WT.callF0 Tryz.func66 Z Z Z Z Z Z (closeK_spec F2 g hg hM2 hx zo hkok) (fun F3 v hF3 hv=>?_);obtain⟨a8,m8,c8,rfl,hz⟩:=hv;refine zC4 ?_;refine AW.ret ⟨_,[],⟨_,_,rfl,⟨_,_,rfl,rfl,rfl⟩,rfl⟩,zsb,rfl,a8,m8,c8,true,_,rfl,hz,?_⟩;unfold nextK;rw[if_neg (by rw[←hsk];intro e;rw[e] at hbl;simp at hbl;omega),hsk];rfl
theorem startK_spec(F:Frz)(g:Gram)(hg:Valid g){im is:Nat}{a:Option Addr}{m c:Nat}{E:List Bool}{Fi:List (List Bool)}{eb ee:Ents Lr}(hM:MakerF F im g a m c E Fi is eb ee) :
  Abs.Spec CC 41 [.pointer (some ⟨im,0,none⟩)] F [] fun F' v o=>o=[]∧∃a' n' c',v=.slice a' n' c'∧Arr tLook F' a' n' c' (firstK g):=by
 have hgr:=hg.range.rules;have hgt:=hg.range.terms;have hr:=hM.sets.rules;have hrl:=hr.len;obtain⟨ib,ie,ro,h1,h2,h3⟩:=hM.blk;have hp2:2 ^ g.terms≤256:=Nat.le_trans (Nat.pow_le_pow_right (by decide) hgt.2) (by decide);refine Abs.Spec.fn (n:=20) Tryz.func41 rfl rfl fun own=>?_;refine zC4 ?_;refine WT.shl32 (x:=1) (y:=g.terms) Z Z Z Z Z Z zo zo ?_;refine zC4 ?_;refine WT.buildT hT Z Z Z Z Z Z Z Z Z Z Z Z Z Z (fun i37 hi37=>?_);refine WT.freezeAll 0 Z Z (fun F2 hF2 hB2=>?_)
 have hb:Bld tLook F (some ⟨i37,0,none⟩) 1 3 [(i37,.cells false (lkV ⟨⟨g.rules.length,0⟩,2 ^ g.terms⟩))] [⟨⟨g.rules.length,0⟩,2 ^ g.terms⟩]:=⟨rfl,.inr ⟨i37,_,rfl,rfl,rfl,Cells.single (R:=tLook) (x:=⟨⟨g.rules.length,0⟩,2 ^ g.terms⟩) rfl,by decide⟩⟩;have hx:=hb.frozen hF2 (by rw[Nat.one_mul,hrl] at hB2;exact hB2);refine WT.callF0 Tryz.func66 Z Z Z Z Z Z (closeK_spec F2 g hg (hM.mono hF2) hx zo (fun x hx=>?_)) (fun F3 v hF3 hv=>?_)
 ·rw[List.mem_singleton.1 hx];exact⟨start_ok _ (List.mem_singleton_self _),Nat.pow_lt_pow_right (by decide) (Nat.lt_succ_self _)⟩
 obtain⟨a8,m8,c8,rfl,hz⟩:=hv;refine zC4 ?_;exact AW.ret ⟨_,[],⟨_,_,rfl,rfl,rfl⟩,zsb,rfl,a8,m8,c8,rfl,hz⟩
end Go.Proofs.D