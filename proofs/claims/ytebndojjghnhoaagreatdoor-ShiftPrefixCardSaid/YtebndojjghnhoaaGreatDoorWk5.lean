/-
  Walks: what functions of the program do, over the abstract machine.
-/
import Derived.Test.YtebndojjghnhoaaGreatDoorWk4
set_option linter.unusedVariables false
set_option maxRecDepth 20000
set_option maxHeartbeats 0
open Go Go.Abs Go.Proofs Go.Proofs.D
namespace Go.Proofs.D
theorem ders_append{g:Gram}{w:List Nat}{l2:List Sym}:∀{l:List Sym} {i m j:Nat},Ders g w l i m→Ders g w l2 m j→Ders g w (l++l2) i j
 | [],i,m,j,h1,h2=>by rw[ders_nil.1 h1];exact h2
 | a::l,i,m,j,h1,h2=>by
  obtain⟨p,h3,h4⟩:=ders_cons.1 h1;exact .cons h3 (ders_append h4 h2)
def DW(g:Gram)(y:List Nat)(l:List Sym):Prop:=Ders g y l 0 y.length
theorem DW.app{g:Gram}{y z:List Nat}{l m:List Sym}(h1:DW g y l)(h2:DW g z m):DW g (y++z) (l++m):=by
 have h3:=ders_wrap (u:=[]) (v:=z) h1;have h4:=ders_wrap (u:=y) (v:=[]) h2;simp only[List.nil_append,List.append_nil,List.length_nil,Nat.zero_add,Nat.add_zero] at h3 h4;unfold DW;rw[List.length_append];exact ders_append h3 h4
theorem DW.one{g:Gram}{y:List Nat}{s:Sym}(h:Der g y s 0 y.length):DW g y [s]:=.cons h .nil
def Via(g:Gram)(v:List Nat)(k:Nat)(x:Item):Prop:=
 ∃r,g.rules[x.rule]?=some r∧x.dot≤r.right.length∧x.frm≤k∧Ders g v (r.right.take x.dot) x.frm k∧∃z,∀y,DW g y (r.right.drop x.dot)→Der g (v.take k++(y++z)) ⟨false,g.start⟩ 0 (v.take k++(y++z)).length
theorem items_list(g:Gram)(h4:∀r∈g.rules,r.right.length≤4)(P:Nat→Item→Prop)(hP:∀k x,P k x→ItemOk g.rules k x):∃L:Nat→List Item,∀k x,x∈L k↔P k x:=by
 classical
 refine⟨fun k=>((List.range g.rules.length).flatMap fun i=>(List.range 5).flatMap fun d=>(List.range (k+1)).map fun f=>(⟨i,d,f⟩:Item)).filter fun x=>decide (P k x),fun k x=>?_⟩;simp only[List.mem_filter,List.mem_flatMap,List.mem_range,List.mem_map,decide_eq_true_eq];constructor
 ·exact fun h=>h.2
 ·intro h;obtain⟨r,h1,h2,h3⟩:=hP k x h;have h5:=h4 r (gM h1);exact⟨⟨x.rule,(gS h1).1,x.dot,by omega,x.frm,by omega,rfl⟩,h⟩
theorem via_sets{g:Gram}{v:List Nat}(hW:∀r∈g.rules,∀y∈r.right,y.term=true∨HasWord g y.n){L:Nat→List Item}(hL:∀k x,x∈L k↔Via g v k x):Sets g v L where
 ok:=fun k _ x hx=>by
  obtain⟨r,h1,h2,h3,_⟩:=(hL k x).1 hx;exact⟨r,h1,h2,h3⟩
 start:=fun i r hr hl=>(hL 0 _).2 ⟨r,hr,Nat.zero_le _,Nat.le_refl _,.nil,[],fun y hy=>by
  rw[List.take_zero,List.nil_append,List.append_nil,←hl];exact .non (gM hr) hy⟩
 closed:=fun k hk x hx=>by
  obtain⟨rx,h1,h2,h3,h4,z,hz⟩:=(hL k x).1 hx;refine⟨fun n i r hn hr hl=>?_,fun r hr hd y hy hn=>?_⟩
  ·obtain⟨r',h5,h6⟩:=nextOf_some hn;rw[h1] at h5;obtain rfl:=Option.some.inj h5;have hdrop:rx.right.drop x.dot=⟨false,n⟩::rx.right.drop (x.dot+1):=List.drop_eq_getElem?_toList_append.trans (by rw[h6];rfl);obtain⟨u,hu⟩:=hasWord_list (g:=g) (rx.right.drop (x.dot+1)) (fun y hy=>hW rx (gM h1) y (List.mem_of_mem_drop hy));refine(hL k _).2 ⟨r,hr,Nat.zero_le _,Nat.le_refl _,.nil,u++z,fun y hy=>?_⟩;have:=hz (y++u) (by
    rw[hdrop];exact DW.app (l:=[⟨false,n⟩]) (.one (by rw[←hl];exact .non (gM hr) hy)) hu)
   rw[List.append_assoc] at this;exact this
  ·obtain⟨ry,g1,g2,g3,g4,zy,gz⟩:=(hL _ y).1 hy;obtain⟨r',h5,h6⟩:=nextOf_some hn;rw[g1] at h5;obtain rfl:=Option.some.inj h5;rw[h1] at hr;obtain rfl:=Option.some.inj hr;rw[hd,List.take_length] at h4;have hder:Der g v ⟨false,rx.left⟩ x.frm k:=.non (gM h1) h4;have hdrop:ry.right.drop y.dot=⟨false,rx.left⟩::ry.right.drop (y.dot+1):=List.drop_eq_getElem?_toList_append.trans (by rw[h6];rfl);have hlt:=(gS h6).1;refine(hL k _).2 ⟨ry,g1,by show y.dot+1≤_;omega,by show y.frm≤k;omega,?_,zy,fun u hu=>?_⟩
   ·show Ders g v (ry.right.take (y.dot+1)) y.frm k;rw[List.take_add_one,h6];exact ders_append g4 (.cons hder .nil)
   ·have hp:=part_der (a:=x.frm) (b:=k) hk hder (Nat.le_refl _) (Nat.le_refl _);have hlen:((v.take k).drop x.frm).length=k-x.frm:=by simp;omega
    have:=gz ((v.take k).drop x.frm++u) (by
     rw[hdrop];refine DW.app (l:=[⟨false,rx.left⟩]) (.one ?_) hu;rw[hlen,Nat.sub_self] at *;exact hp)
    rw[show v.take x.frm++((v.take k).drop x.frm++u++zy)=v.take k++(u++zy) by
     rw[List.append_assoc,←List.append_assoc];congr 1;have:v.take x.frm=(v.take k).take x.frm:=by rw[List.take_take,Nat.min_eq_left h3]
     rw[this,List.take_append_drop]] at this
    exact this
 scan:=fun k t ht x hx hn=>by
  obtain⟨rx,h1,h2,h3,h4,z,hz⟩:=(hL k x).1 hx;obtain⟨r',h5,h6⟩:=nextOf_some hn;rw[h1] at h5;obtain rfl:=Option.some.inj h5;have hlt:=(gS h6).1;have hdrop:rx.right.drop x.dot=⟨true,t⟩::rx.right.drop (x.dot+1):=List.drop_eq_getElem?_toList_append.trans (by rw[h6];rfl);refine(hL _ _).2 ⟨rx,h1,by show x.dot+1≤_;omega,by show x.frm≤k+1;omega,?_,z,fun y hy=>?_⟩
  ·show Ders g v (rx.right.take (x.dot+1)) x.frm (k+1);rw[List.take_add_one,h6];exact ders_append h4 (.cons (.term ht) .nil)
  ·have:=hz ([t]++y) (by
    rw[hdrop];exact DW.app (l:=[⟨true,t⟩]) (.one (.term rfl)) hy)
   rw[show v.take (k+1)++(y++z)=v.take k++([t]++y++z) by rw[List.take_add_one,ht];simp];exact this
theorem trim_words{g:Gram}{E:List Bool}(hE:EndsIn g E):∀r∈(trimmed E g).rules,∀y∈r.right,y.term=true∨HasWord (trimmed E g) y.n:=by
 intro r hr y hy;obtain⟨h1,h2⟩:=List.mem_filter.1 hr;rcases useful_iff.1 h2 y hy with h3 | h3
 ·exact .inl h3
 ·obtain⟨w,hw⟩:=hE.iff.1 h3;exact .inr ⟨w,(der_trimmed hE.closed hw).1⟩
theorem der_more_trim{g:Gram}{E:List Bool}{w:List Nat}:∀{s:Sym} {i j:Nat},Der (trimmed E g) w s i j→Der g w s i j:=by
 intro s i j h;refine Der.rec (motive_1:=fun s i j _=>Der g w s i j) (motive_2:=fun l i j _=>Ders g w l i j) ?_ ?_ ?_ ?_ h
 ·intro t i h;exact .term h
 ·intro r i j hr _ ih;exact .non (List.mem_filter.1 hr).1 ih
 ·intro i;exact .nil
 ·intro s l i m j _ _ ih1 ih2;exact .cons ih1 ih2
theorem Der.tree{g:Gram}{w:List Nat}{s:Sym}{i j:Nat}(h:Der g w s i j):∃T,TreeOf g w s T i j:=by
 refine Der.rec (motive_1:=fun s i j _=>∃T,TreeOf g w s T i j) (motive_2:=fun l i j _=>∃ts,TreesOf g w l ts i j) ?_ ?_ ?_ ?_ h
 ·intro t i h;exact⟨_,.leaf h⟩
 ·intro r i j hr _ ⟨ts,h2⟩;obtain⟨k,hk⟩:=List.getElem?_of_mem hr;exact⟨_,.node hk h2⟩
 ·intro i;exact⟨[],.nil⟩
 ·intro s l i m j _ _ ⟨T,h1⟩ ⟨ts,h2⟩;exact⟨_,.cons h1 h2⟩
def GoodI(g:Gram)(u:List Nat)(i:Nat)(x:Lr):Prop:=∃z,∀y,DW g y ((rightL g x.rule).drop x.dot)→Der g (u.take i++(y++z)) ⟨false,g.start⟩ 0 (u.take i++(y++z)).length
theorem word_list{g:Gram}(hg:Valid g)(hP:∀n,n<g.nons→HasWord g n)(k d:Nat):∃v,DW g v ((rightL g k).drop d):=
 hasWord_list _ fun y hy=>by
  have:=rightL_ok hg k y (List.mem_of_mem_drop hy);obtain⟨b,n⟩:=y;cases b with
  | true=>exact .inl rfl
  | false=>exact .inr (hP n this)
theorem drop_at{α:Type}{l:List α}{d:Nat}{a:α}(h:l[d]?=some a):l.drop d=a::l.drop (d+1):=List.drop_eq_getElem?_toList_append.trans (by rw[h];rfl)
theorem clos_good{g:Gram}(hg:Valid g)(hP:∀n,n<g.nons→HasWord g n){u:List Nat}{i:Nat}{l:List Lr}(hl:∀x∈l,GoodI g u i x){x:Lr}(h:Clos g l x):GoodI g u i x:=by
 induction h with
 | base h=>exact hl _ h
 | @more x n k r h1 ha hr hn ih=>
  obtain⟨z,hz⟩:=ih;rw[afterL_right] at ha;obtain⟨v,hv⟩:=word_list hg hP x.rule (x.dot+1);refine⟨v++z,fun y hy=>?_⟩;have hy:DW g y ((rightL g k).drop 0):=hy;rw[List.drop_zero,rightL_rule hr] at hy;have:=hz (y++v) (by
   rw[drop_at ha];exact DW.app (l:=[⟨false,n⟩]) (.one (by rw[←hn];exact .non (gM hr) hy)) hv)
  rw[List.append_assoc] at this;exact this
theorem part_glue{u y z:List Nat}{i j:Nat}(h:i≤j):u.take i++((u.take j).drop i++y++z)=u.take j++(y++z):=by
 rw[List.append_assoc,←List.append_assoc];congr 1;have:u.take i=(u.take j).take i:=by rw[List.take_take,Nat.min_eq_left h]
 rw[this,List.take_append_drop]
theorem LStk.good{g:Gram}{I:List (List Lr)}{rows:List (List Int)}(hg:Valid g)(hA:AutoC g I rows)(hP:∀n,n<g.nons→HasWord g n){u:List Nat}{σ:List Nat}{τ:List Tree}{i:Nat}(h:LStk g (goR g rows) u σ τ i) :
  i≤u.length→∀x,itI I (topS σ) x→GoodI g u i x:=by
 induction h with
 | nil=>
  intro _ x ⟨st,hst,hx⟩;obtain⟨st0,hst0,hz⟩:=hA.zero;rw[show topS [0]=0 from rfl,hst0] at hst;obtain rfl:=Option.some.inj hst;refine clos_good hg hP (fun x hx=>?_) ((hz _).1 hx);rw[List.mem_singleton.1 hx];refine⟨[],fun y hy=>?_⟩;have hy:DW g y ((rightL g g.rules.length).drop 0):=hy;rw[rightL_start] at hy;obtain⟨m,h1,h2⟩:=ders_cons.1 (show Ders g y (⟨false,g.start⟩::[]) 0 y.length from hy);rw[ders_nil.1 h2] at h1;rw[List.take_zero,List.nil_append,List.append_nil];exact h1
 | @snoc σ τ i j s s' y T h1 h2 h3 ih=>
  intro hj x ⟨st1,hst1,hx⟩;rw[topS_snoc] at hst1;obtain⟨st,st',e1,e2,_,e4⟩:=hA.goes hg h2;rw[e2] at hst1;obtain rfl:=Option.some.inj hst1;have hij:=(TreeOf.le h3).1;refine clos_good hg hP (fun x hx=>?_) ((e4 _).1 hx);obtain⟨x0,f1,f2,rfl⟩:=mem_kern.1 hx;obtain⟨z,hz⟩:=ih zo x0 ⟨st,by rw[topS_snoc];exact e1,f1⟩;rw[afterL_right] at f2;refine⟨z,fun y2 hy2=>?_⟩;have hp:=part_der (a:=i) (b:=j) hj (TreeOf.toDer h3) (Nat.le_refl _) (Nat.le_refl _);have hlen:((u.take j).drop i).length=j-i:=by simp;omega
  have:=hz ((u.take j).drop i++y2) (by
   rw[drop_at f2];refine DW.app (l:=[y]) (.one ?_) hy2;rw[hlen,Nat.sub_self] at *;exact hp)
  rw[part_glue hij] at this;exact this
theorem LStk.viable{g:Gram}{I:List (List Lr)}{rows:List (List Int)}(hg:Valid g)(hA:AutoC g I rows)(hP:∀n,n<g.nons→HasWord g n){u:List Nat}{σ:List Nat}{τ:List Tree}{i:Nat}(h:LStk g (goR g rows) u σ τ i)(hi:i≤u.length) :
  ∃v,Der g (u.take i++v) ⟨false,g.start⟩ 0 (u.take i++v).length:=by
 obtain⟨x,hx⟩:∃x,itI I (topS σ) x:=by
  cases h with
  | nil=>
   obtain⟨st0,hst0,hz⟩:=hA.zero;exact⟨_,st0,hst0,(hz _).2 (.base (List.mem_singleton.2 rfl))⟩
  | snoc h1 h2 h3=>
   obtain⟨st,st',e1,e2,e3,e4⟩:=hA.goes hg h2;obtain⟨z,hz⟩:=List.exists_mem_of_ne_nil _ e3;exact⟨z,st',by rw[topS_snoc];exact e2,(e4 _).2 (.base hz)⟩
 obtain⟨z,hz⟩:=h.good hg hA hP hi x hx;obtain⟨v,hv⟩:=word_list hg hP x.rule x.dot;exact⟨v++z,hz v hv⟩
inductive Spine(g:Gram)(w:List Nat)(p c:Nat):Sym→Nat→Nat→Prop
 | leaf:Spine g w p c ⟨true,c⟩ p 0
 | node {k:Nat} {r:Rule} {pre post:List Sym} {s:Sym} {ts:List Tree} {i m n:Nat}:g.rules[k]?=some r→r.right=pre++s::post→TreesOf g w pre ts i m→Spine g w p c s m n→Spine g w p c ⟨false,r.left⟩ i (n+(preL ts).length+1)
mutual
theorem TreeOf.spine{g:Gram}{w:List Nat}{p c:Nat}(hc:w[p]?=some c):∀{T:Tree} {X:Sym} {i j:Nat},TreeOf g w X T i j→i≤p→p<j→∃n,Spine g w p c X i n
 | .mk _ _ _,_,i,_,.leaf h,h1,h2=>by
  obtain rfl:i=p:=by omega
  rw[hc] at h;obtain rfl:=Option.some.inj h;exact⟨0,.leaf⟩
 | .mk _ _ ks,_,i,j,.node h h2,h3,h4=>by
  obtain⟨pre,s,post,ts,m,n,e1,e2,e3⟩:=TreesOf.spine hc h2 h3 h4;exact⟨_,.node h e1 e2 e3⟩
theorem TreesOf.spine{g:Gram}{w:List Nat}{p c:Nat}(hc:w[p]?=some c):∀{ts:List Tree} {l:List Sym} {i j:Nat},TreesOf g w l ts i j→i≤p→p<j→∃pre s post ts1 m n,l=pre++s::post∧TreesOf g w pre ts1 i m∧Spine g w p c s m n
 | [],_,i,_,.nil,h1,h2=>by omega
 | T::ts,_,i,j,.cons (s:=s) (l:=l) (m:=m) h1 h2,h3,h4=>by
  rcases Nat.lt_or_ge p m with h5 | h5
  ·obtain⟨n,hn⟩:=TreeOf.spine hc h1 h3 h5;exact⟨[],s,l,[],i,n,rfl,.nil,hn⟩
  ·obtain⟨pre,s',post,ts1,m',n,e1,e2,e3⟩:=TreesOf.spine hc h2 h5 h4;exact⟨s::pre,s',post,T::ts1,m',n,by rw[e1];rfl,.cons h1 e2,e3⟩
end
theorem BegL.app{g:Gram}{l m:List Sym}{t:Nat}(h:BegL g l t):BegL g (l++m) t:=by
 obtain⟨pre,s,post,e,h1,h2⟩:=h;exact⟨pre,s,post++m,by rw[e];simp,h1,h2⟩
theorem BegL.behind{g:Gram}:∀{l m:List Sym} {t:Nat},NulL g l→BegL g m t→BegL g (l++m) t
 | [],_,_,_,h=>h
 | s::l,m,t,hl,h=>BegL.cons (hl s me).1 (hl s me).2 (BegL.behind (fun x hx=>hl x (List.mem_cons_of_mem _ hx)) h)
theorem Spine.begin{g:Gram}{w:List Nat}{p c:Nat}(hc:w[p]?=some c){X:Sym}{i n:Nat}(h:Spine g w p c X i n):i≤p∧∃c',w[i]?=some c'∧(X=⟨true,c'⟩∨(X.term=false∧Beg g X.n c')):=by
 induction h with
 | leaf=>exact⟨Nat.le_refl _,c,hc,.inl rfl⟩
 | @node k r pre post s ts i m n hr he ht _ ih=>
  obtain⟨h1,c',h2,h3⟩:=ih;have hle:=(TreesOf.le ht).1;obtain⟨b1,b2⟩:=TreesOf.begin ht;have hm:=gM hr;refine⟨by omega,?_⟩;rcases Nat.lt_or_ge i m with h4 | h4
  ·obtain⟨c2,hc2,h5⟩:=b2 h4;exact⟨c2,hc2,.inr ⟨rfl,.of hm (by rw[he];exact h5.app)⟩⟩
  ·obtain rfl:i=m:=by omega
   exact⟨c',h2,.inr ⟨rfl,.of hm (by rw[he];exact BegL.behind (b1 rfl) (.head h3))⟩⟩
section
variable {g:Gram}{it:Nat→Lr→Prop}{la:Nat→Lr→Nat→Prop}{go:Nat→Sym→Option Nat}{act:Nat→Nat→Act}{w:List Nat}
theorem rest_some(hg:Valid g)(hP:∀n,n<g.nons→HasWord g n)(x:Lr):(∃t,BegL g (restL g x) t)∨NulL g (restL g x):=by
 obtain⟨v,hv⟩:=word_list hg hP x.rule (x.dot+1);obtain⟨ts,ht⟩:∃ts,TreesOf g v (restL g x) ts 0 v.length:=by
  have h:Ders g v (restL g x) 0 v.length:=hv;refine Ders.rec (motive_1:=fun s i j _=>∃T,TreeOf g v s T i j) (motive_2:=fun l i j _=>∃ts,TreesOf g v l ts i j) ?_ ?_ ?_ ?_ h
  ·intro t i h;exact⟨_,.leaf h⟩
  ·intro r i j hr _ ⟨ts,h2⟩;obtain⟨k,hk⟩:=List.getElem?_of_mem hr;exact⟨_,.node hk h2⟩
  ·intro i;exact⟨[],.nil⟩
  ·intro s l i m j _ _ ⟨T,h1⟩ ⟨ts,h2⟩;exact⟨_,.cons h1 h2⟩
 obtain⟨b1,b2⟩:=TreesOf.begin ht;rcases Nat.eq_zero_or_pos v.length with h | h
 ·exact .inr (b1 h.symm)
 ·obtain⟨c,_,h2⟩:=b2 h;exact .inl ⟨c,h2⟩
theorem la_some(hg:Valid g)(hP:∀n,n<g.nons→HasWord g n)(ok:LRok g it la go){s:Nat}{x:Lr}{k:Nat}{r:Rule}(hx:it s x)(hu:∃u,la s x u)(ha:afterL g x=some ⟨false,r.left⟩)(hr:g.rules[k]?=some r):∃u,la s ⟨k,0⟩ u:=by
 obtain⟨u,hu⟩:=hu;rcases rest_some hg hP x with ⟨t,h⟩ | h
 ·exact⟨t,ok.closL hx hu ha hr (.inl h)⟩
 ·exact⟨u,ok.closL hx hu ha hr (.inr ⟨h,hu⟩)⟩
theorem TreesOf.runPre(ok:LRok g it la go)(on:Only g it la go act)(hw:∀t∈w,t<g.terms){rest:List Sym}:∀{ts:List Tree} {l:List Sym} {i m:Nat},TreesOf g w l ts i m→∀{σ:List Nat} {τ:List Tree} {k d:Nat} {r:Rule},g.rules[k]?=some r→it (topS σ) ⟨k,d⟩→(∃u,la (topS σ) ⟨k,d⟩ u)→r.right.drop d=l++rest→BegL g rest (lookW g w m)→
  ∃σ' n,σ'.length=ts.length∧it (topS (σ++σ')) ⟨k,d+l.length⟩∧(∃u,la (topS (σ++σ')) ⟨k,d+l.length⟩ u)∧n≤(preL ts).length∧Run g go act w ((σ,τ),i) n ((σ++σ',τ++ts),m)
 | [],_,i,_,.nil,σ,τ,k,d,r,hk,hit,hla,hd,hb=>by
  refine⟨[],0,rfl,?_,?_,Nat.zero_le _,?_⟩
  ·rw[List.append_nil];exact hit
  ·rw[List.append_nil];exact hla
  ·rw[List.append_nil,List.append_nil];exact .refl
 | T::ts,s::l,i,j,.cons (m:=m) h1 h2,σ,τ,k,d,r,hk,hit,⟨u,hla⟩,hd,hb=>by
  have hd1:r.right[d]?=some s:=by rw[←List.head?_drop,hd];rfl
  have hd2:r.right.drop (d+1)=l++rest:=by rw[←List.tail_drop,hd];rfl
  have haf:afterL g ⟨k,d⟩=some s:=by rw[afterL_right];show (rightL g k)[d]?=_;rw[rightL_rule hk];exact hd1
  have hrest:restL g ⟨k,d⟩=l++rest:=by unfold restL;show (rightL g k).drop (d+1)=_;rw[rightL_rule hk];exact hd2
  obtain⟨b1,b2⟩:=TreesOf.begin h2;have hle:=(TreesOf.le h2).1;have hal:Allowed g la (topS σ) ⟨k,d⟩ (lookW g w m):=by
   unfold Allowed;rw[hrest];left;by_cases hm:m<j
   ·obtain⟨c,hc,h5⟩:=b2 hm;rw[lookW_at hc];exact h5.app
   ·obtain rfl:m=j:=by omega
    exact BegL.behind (b1 rfl) hb
  obtain⟨s',n1,e1,e2,e3⟩:=TreeOf.run ok on hw h1 hit ⟨_,hla⟩ haf hal;obtain⟨s2,f1,f2,f3⟩:=ok.step hit haf;rw[e1] at f1;obtain rfl:=Option.some.inj f1;obtain⟨σ',n2,g1,g2,g3,g4,g5⟩:=TreesOf.runPre ok on hw h2 (σ:=σ++[s']) (τ:=τ++[T]) (k:=k) (d:=d+1) (r:=r) hk (by rw[topS_snoc];exact f2) ⟨u,by rw[topS_snoc];exact f3 _ hla⟩ hd2 hb;have e:∀x:List Nat,σ++[s']++x=σ++(s'::x):=fun x=>by simp
  have e':∀x:List Tree,τ++[T]++x=τ++(T::x):=fun x=>by simp
  rw[e] at g2 g3 g5;rw[e'] at g5;have e6:d+1+l.length=d+(s::l).length:=by rw[List.length_cons];omega
  rw[e6] at g2 g3;refine⟨s'::σ',n1+n2,by rw[List.length_cons,g1];rfl,g2,g3,?_,e3.trans g5⟩;show _≤(T.pre++preL ts).length;rw[List.length_append];omega
theorem Spine.run(hg:Valid g)(hP:∀n,n<g.nons→HasWord g n)(ok:LRok g it la go)(on:Only g it la go act)(hw:∀t∈w,t<g.terms){p c:Nat}(hc:w[p]?=some c){X:Sym}{i n:Nat}(h:Spine g w p c X i n) :
  ∀{σ:List Nat} {τ:List Tree} {x:Lr},it (topS σ) x→(∃u,la (topS σ) x u)→afterL g x=some X→∃σ' τ' n' s',n'≤n∧Run g go act w ((σ,τ),i) n' ((σ',τ'),p)∧act (topS σ') c=.shift s':=by
 induction h with
 | leaf=>
  intro σ τ x hx hu ha;obtain⟨s',h1,h2,h3⟩:=ok.step hx ha;exact⟨σ,τ,0,s',Nat.le_refl _,.refl,on.all (.shift (hw c (gM hc)) h1)⟩
 | @node k r pre post s ts i m n hr he ht hs ih=>
  intro σ τ x hx hu ha;have hk0:=ok.clos hx ha hr;have hk1:=la_some hg hP ok hx hu ha hr;obtain⟨_,c',hc',hb⟩:=hs.begin hc;obtain⟨σ',n1,e1,e2,e3,e4,e5⟩:=TreesOf.runPre ok on hw ht (σ:=σ) (τ:=τ) (k:=k) (d:=0) (r:=r) (rest:=s::post) hr hk0 hk1 (by rw[List.drop_zero];exact he) (by rw[lookW_at hc'];exact .head hb);rw[Nat.zero_add] at e2 e3;have haf:afterL g ⟨k,pre.length⟩=some s:=by
   rw[afterL_right];show (rightL g k)[pre.length]?=_;rw[rightL_rule hr,he];simp
  obtain⟨σ2,τ2,n2,s',g1,g2,g3⟩:=ih (τ:=τ++ts) e2 e3 haf;exact⟨σ2,τ2,n1+n2,s',by omega,e5.trans g2,g3⟩
theorem Spine.conf(hg:Valid g)(hP:∀n,n<g.nons→HasWord g n)(ok:LRok g it la go)(on:Only g it la go act)(hw:∀t∈w,t<g.terms){p c:Nat}(hc:w[p]?=some c){n M:Nat}(h:Spine g w p c ⟨false,g.start⟩ 0 n)(hM:n≤M) :
  ∃c0,confAt g go act M (w.take (p+1)).reverse=some c0:=by
 have ha:afterL g ⟨g.rules.length,0⟩=some ⟨false,g.start⟩:=by rw[afterL_right];show (rightL g g.rules.length)[0]?=_;rw[rightL_start];rfl
 obtain⟨σ',τ',n',s',h1,h2,h3⟩:=h.run hg hP ok on hw hc (σ:=[0]) (τ:=[]) (x:=⟨g.rules.length,0⟩) ok.start ⟨_,ok.startL⟩ ha;have h4:=Run.shift (c:=(σ',τ')) h2 hc h3;obtain⟨c0,m,f1,_⟩:=h4.conf (M:=M) zo;exact⟨c0,f1⟩
end
theorem least_nat{P:Nat→Prop}:∀{n:Nat},P n→∃m,P m∧m≤n∧∀k,P k→m≤k:=by
 intro n
 induction n using Nat.strongRecOn with
 | _ n ih=>
  intro h;by_cases hc:∃m,m<n∧P m
  ·obtain⟨m,h1,h2⟩:=hc;obtain⟨k,h3,h4,h5⟩:=ih m h1 h2;exact⟨k,h3,by omega,h5⟩
  ·exact⟨n,h,Nat.le_refl _,fun k hk=>by
    rcases Nat.lt_or_ge k n with h6 | h6
    ·exact absurd ⟨k,h6,hk⟩ hc
    ·exact h6⟩
theorem min_small{g:Gram}{w:List Nat}(hg:Small g){s:Sym}{i j:Nat}{T:Tree}(h:Min g w s T i j):T.pre.length≤650*(j-i)+40:=by
 have hgv:=hg.valid;have hnon:∀{m a b:Nat} {T':Tree},Min g w ⟨false,m⟩ T' a b→m<g.nons:=fun {m a b T'} h=>by
  cases h.1 with
  | node h1 _=>exact(hgv.right _ (gM h1)).1
 have h3:∀r∈g.rules,r.right.length≤3:=fun r hr=>(hg.ok r hr).2.1;obtain⟨b,n⟩:=s;cases b with
 | true=>
  cases h.1 with
  | leaf _=>show 1≤_;omega
 | false=>
  have hn:=hnon h;have hlen:((List.range g.nons).erase n).length≤3:=by
   rw[List.length_erase_of_mem (List.mem_range.2 hn),List.length_range];have:=hg.nons.2;omega
  have hlow:∀m T2,Min g w ⟨false,m⟩ T2 i j→T2.pre.length<T.pre.length→m∈(List.range g.nons).erase n:=fun m T2 h2 h3=>mem_erase' (List.mem_range.2 (hnon h2)) fun e=>by
   subst e;have:=h.eq h2;omega
  have hle:=(TreeOf.le h.1).1;rcases Nat.eq_or_lt_of_le hle with e | e
  ·subst e;have:=emp_bound hgv h3 3 _ n i T hlen h hlow;have e40:eB 3=40:=rfl;omega
  ·have:=part_bound hgv hg.nons.2 h3 (j-i) 3 _ n i j T rfl e hlen h hlow;omega
theorem mts_small{g:Gram}{w:List Nat}(hg:Small g):∀{ts:List Tree} {l:List Sym} {i j:Nat},MTs g w l ts i j→(preL ts).length≤650*(j-i)+40*l.length
 | _,_,_,_,.nil=>Nat.zero_le _
 | t::ts,s::l,i,j,.cons (m:=m) h1 h2=>by
  have a1:=min_small hg h1;have a2:=mts_small hg h2;have b1:=(TreeOf.le h1.1).1;have b2:=(TreesOf.le h2.of).1;show (t.pre++preL ts).length≤_;rw[List.length_append,List.length_cons];omega
def MinS(g:Gram)(w:List Nat)(p c:Nat)(s:Sym)(i n:Nat):Prop:=Spine g w p c s i n∧∀n',Spine g w p c s i n'→n≤n'
theorem spine_bound{g:Gram}{w:List Nat}(hg:Small g){p c:Nat}(hc:w[p]?=some c):∀(len k:Nat) (U:List Nat) (a i n:Nat),p-i=len→U.length≤k→MinS g w p c ⟨false,a⟩ i n→(∀m n',MinS g w p c ⟨false,m⟩ i n'→n'<n→m∈U)→n≤974*len+81*(k+1):=by
 have hgv:=hg.valid;have h3:∀r∈g.rules,r.right.length≤3:=fun r hr=>(hg.ok r hr).2.1;have hnon:∀{m i n:Nat},MinS g w p c ⟨false,m⟩ i n→m<g.nons:=fun {m i n} h=>by
  generalize hs:(⟨false,m⟩:Sym)=s at h;cases h.1 with
  | leaf=>cases hs
  | node h1 _ _ _=>
   cases hs;exact(hgv.right _ (gM h1)).1
 have heq:∀{s:Sym} {i n n':Nat},MinS g w p c s i n→MinS g w p c s i n'→n=n':=fun h h'=>Nat.le_antisymm (h.2 _ h'.1) (h'.2 _ h.1);have hsplit:∀{a i n:Nat},MinS g w p c ⟨false,a⟩ i n→∃(s:Sym) (m n1:Nat),MinS g w p c s m n1∧i≤m∧m≤p∧n1<n∧n≤n1+650*(m-i)+81:=fun {a i n} h=>by
  obtain⟨h1,h2⟩:=h;generalize hs:(⟨false,a⟩:Sym)=s at h1 h2;cases h1 with
  | leaf=>cases hs
  | @node k r pre post s ts _ m n1 hr he ht hsp=>
   obtain⟨n2,q1,q2,q3⟩:=least_nat (P:=fun n=>Spine g w p c s m n) hsp;obtain⟨ts',t1,t2⟩:=TreesOf.toMin ht;have hle:=(TreesOf.le ht).1;have h4:=h2 _ (.node hr he t1.of q1);have h5:=mts_small hg t1;have h6:=h3 r (gM hr);rw[he,List.length_append,List.length_cons] at h6;refine⟨s,m,n2,⟨q1,q3⟩,hle,(q1.begin hc).1,by omega,by omega⟩
 have hrange:∀{a i n:Nat},MinS g w p c ⟨false,a⟩ i n→((List.range g.nons).erase a).length≤3∧∀m n',MinS g w p c ⟨false,m⟩ i n'→n'<n→m∈(List.range g.nons).erase a:=fun {a i n} h=>by
  refine⟨?_,fun m n' h1 h2=>mem_erase' (List.mem_range.2 (hnon h1)) fun e=>?_⟩
  ·rw[List.length_erase_of_mem (List.mem_range.2 (hnon h)),List.length_range];have:=hg.nons.2;omega
  ·subst e;have:=heq h h1;omega
 intro len
 induction len using Nat.strongRecOn with
 | _ len ihl=>
  intro k
  induction k with
  | zero=>
   intro U a i n hlen hU hT hlow;obtain⟨s,m,n1,e1,e2,e3,e4,e5⟩:=hsplit hT;obtain⟨b,q⟩:=s;cases b with
   | true=>
    have:n1=0:=by
     generalize hs:(⟨true,q⟩:Sym)=s at e1;cases e1.1 with
     | leaf=>rfl
     | node _ _ _ _=>cases hs
    have:650*(m-i)≤974*len:=by omega
    omega
   | false=>
    rcases Nat.eq_or_lt_of_le e2 with e | e
    ·subst e;have:=hlow q n1 e1 e4;have hUn:U=[]:=List.eq_nil_of_length_eq_zero zo;rw[hUn] at this;cases this
    ·obtain⟨g1,g2⟩:=hrange e1;have:=ihl (p-m) zo 3 _ q m n1 rfl g1 e1 g2;omega
  | succ k ih=>
   intro U a i n hlen hU hT hlow;obtain⟨s,m,n1,e1,e2,e3,e4,e5⟩:=hsplit hT;obtain⟨b,q⟩:=s;cases b with
   | true=>
    have:n1=0:=by
     generalize hs:(⟨true,q⟩:Sym)=s at e1;cases e1.1 with
     | leaf=>rfl
     | node _ _ _ _=>cases hs
    have:650*(m-i)≤974*len:=by omega
    omega
   | false=>
    rcases Nat.eq_or_lt_of_le e2 with e | e
    ·subst e;have hin:=hlow q n1 e1 e4;have:=ih (U.erase q) q i n1 hlen (by rw[List.length_erase_of_mem hin];omega) e1 fun m' n2 h1 h2=>by
      refine mem_erase' (hlow m' n2 h1 zo) fun e=>?_;subst e;have:=heq e1 h1;omega
     omega
    ·obtain⟨g1,g2⟩:=hrange e1;have:=ihl (p-m) zo 3 _ q m n1 rfl g1 e1 g2;omega
theorem conf_reads{g:Gram}{it:Nat→Lr→Prop}{la:Nat→Lr→Nat→Prop}{go:Nat→Sym→Option Nat}{act:Nat→Nat→Act}{w:List Nat}(hg:Small g)(hP:∀n,n<g.nons→HasWord g n)(ok:LRok g it la go)(on:Only g it la go act)(hw:∀t∈w,t<g.terms)
  (h:Der g w ⟨false,g.start⟩ 0 w.length) {p:Nat} (hp:p<w.length) (hp2:p≤90):∃c0,confAt g go act 100000 (w.take (p+1)).reverse=some c0:=by
 obtain⟨T,hT⟩:=Der.tree h;have hc:=gE hp;generalize w[p]=c at hc;obtain⟨n,hn⟩:=TreeOf.spine hc hT (Nat.zero_le _) hp;obtain⟨m,h1,h2,h3⟩:=least_nat (P:=fun n=>Spine g w p c ⟨false,g.start⟩ 0 n) hn;have hb:=spine_bound hg hc p g.nons (List.range g.nons) g.start 0 m zo (by rw[List.length_range];exact Nat.le_refl _) ⟨h1,h3⟩ fun q n' hq _=>by
  have hq:=hq.1;generalize hs:(⟨false,q⟩:Sym)=s at hq;cases hq with
  | leaf=>cases hs
  | node h1 _ _ _=>
   cases hs;exact List.mem_range.2 (hg.valid.right _ (gM h1)).1
 have hn4:=hg.nons.2;exact h1.conf hg.valid hP ok on hw hc (M:=100000) zo
def tAt{α:Type}(R:Ty α)(H:Frz):Ty α where
 size:=R.size
 rel:=fun _ l x=>R.rel H l x
 len:=fun _ _ _ h=>R.len _ _ _ h
 one:=fun _ _ _ h=>R.one _ _ _ h
 mono:=fun _ _ _ _ _ h=>h
section
variable {α:Type}{R:Ty α}{F G H:Frz}{a:Option Addr}{n c:Nat}{B:List (Nat×Blk)}{xs:List α}
theorem cells_at{cs:List Value}(h:Cells R F cs xs):Cells (tAt R F) G cs xs:=by
 induction h with
 | nil=>exact .nil
 | cons h _ ih=>exact .cons h ih
theorem cells_of{cs:List Value}(h:Cells (tAt R H) G cs xs)(hH:Frz.le H F):Cells R F cs xs:=by
 induction h with
 | nil=>exact .nil
 | cons h _ ih=>exact .cons (R.mono _ _ _ _ hH h) ih
theorem gbAt(h:GB R F a n c B xs):GB (tAt R F) G a n c B xs:=
 ⟨h.len,h.at_.imp id fun ⟨i,cs,rest,h1,h2,h3,h4,h5⟩=>⟨i,cs,rest,h1,h2,h3,cells_at h4,h5⟩⟩
theorem vecOf(h:Vec (tAt R H) G a n c B xs)(hH:Frz.le H F):Vec R F a n c B xs:=
 ⟨h.len,h.cap,h.zero,h.nil,h.spot,h.el.imp id fun ⟨i,cs,h1,h2,h3,h4⟩=>⟨i,cs,h1,h2,cells_of h3 hH,h4⟩⟩
theorem arrAt(h:Arr R F a n c xs):Arr (tAt R F) F a n c xs:=⟨h.len,h.cap,h.zero,h.nil,h.spot,h.el⟩
theorem gbTail{C:Ctx}{T:RT}(h:GB R F a n c B xs){lo:Nat}(hlo:lo≤n)(hT:rowsOk C T=true){t e:Nat}{r:Row}(hr:rowOf T t=some r)(hd:r.d=.slice e)(hs:sizeT T e=some R.size) :
  ∃a' c',(∀h0,sliceA C h0 t (.slice a n c) (some (.int .i64 (lo:Nat))) none none=some (.slice a' (n-lo) c'))∧∀G,Frz.le F G→(∀i b,(i,b)∈B→G i=some b)→Arr R G a' (n-lo) c' (xs.drop lo):=by
 have hn:=h.len;have key:∀{S:Ty α} {G:Frz},S.size=R.size→Arr S G a n c xs→∃a' c',(∀h0,sliceA C h0 t (.slice a n c) (some (.int .i64 (lo:Nat))) none none=some (.slice a' (n-lo) c'))∧Arr S G a' (n-lo) c' (xs.drop lo):=fun {S G} hS hA=>by
  obtain⟨a',c',h1,h2⟩:=hA.slice (C:=C) (lo:=lo) (hi:=n) hlo (Nat.le_refl _) hT hr hd (by rw[hS];exact hs) (some (.int .i64 (lo:Nat))) none (by simp[boundA]) rfl;rw[List.take_of_length_le zo] at h2;exact⟨a',c',h1,h2⟩
 have hE:∃H:Frz,∀i b,(i,b)∈B→H i=some b:=by
  rcases h.at_ with ⟨_,_,_,rfl⟩ | ⟨i,cs,rest,_,_,rfl,_,_⟩
  ·exact⟨fun _=>none,fun i b hm=>by cases hm⟩
  ·exact⟨fun _=>some (.cells false (cs++rest)),fun j b hm=>by cases List.mem_singleton.1 hm;rfl⟩
 obtain⟨H,hH⟩:=hE;obtain⟨a',c',h1,_⟩:=key (S:=tAt R F) (G:=H) rfl ((gbAt (G:=fun _=>none) h).arr (fun _ _ h=>by cases h) hH);refine⟨a',c',h1,fun G hF hB=>?_⟩;obtain⟨a2,c2,g1,g2⟩:=key rfl (h.arr hF hB);have e:=(g1 ⟨0,.e⟩).symm.trans (h1 ⟨0,.e⟩);simp only[Option.some.injEq,Value.slice.injEq,true_and] at e;obtain⟨rfl,rfl⟩:=e;exact g2
end
theorem natClone2_spec(F:Frz){a:Option Addr}{m c:Nat}{xs:List Nat}(hx:Arr tNat F a m c xs)(hm:m≤10000000) :
  Abs.Spec CC 66 [.slice a m c] F [] fun F' v o=>∃B',o=[B']∧∃a' c',v=.slice a' m c'∧Vec tNat F' a' m c' B' xs∧(a=none→GB tNat F' a' m c' B' xs):=by
 refine Abs.Spec.fn (n:=8) Tryz.func66 rfl rfl fun own=>?_;refine zB4 ?_;refine WT.sliceNil hT Z Z Z Z Z Z Z Z ?_;refine zB4 ?_;refine AW.cond Z (fun h=>?_) (fun h=>?_)
 ·obtain rfl:a=none:=by simpa using h
  obtain⟨rfl,rfl⟩:=hx.nil rfl;obtain rfl:xs=[]:=List.eq_nil_of_length_eq_zero hx.len.symm;refine zB4 ?_;refine AW.le (own2:=[]::own) (OwnLe.flat (List.Perm.refl _)) ?_;exact AW.ret ⟨_,[[]],⟨_,_,rfl,rfl,rfl⟩,zsb,_,rfl,_,_,rfl,(Bld.nil_ _ _).vec,fun _=>(Bld.nil_ _ _).gb⟩
 ·have hne:a≠none:=fun e=>by rw[e] at h;cases h
  refine zB4 ?_;refine WT.buildT hT Z Z Z Z Z Z Z Z Z Z Z Z Z Z (fun i5 hi5=>?_);refine zB4 ?_;obtain⟨ds,hds,hcs⟩:=news_arr hT hx (t:=22) rfl rfl 3;refine WT.appendE hT Z Z Z Z Z Z Z Z Z Z Z Z (fun h0 s0=>hds _ h0 s0) hcs hx.len (by decide) zom (fun a' c' B' hB' _=>?_);refine zB4 ?_;refine AW.le (OwnLe.cons _ (OwnLe.skip _ oR)) ?_;exact AW.ret ⟨_,[_],⟨_,_,rfl,rfl,rfl⟩,zsb,_,rfl,_,_,rfl,hB',fun h=>absurd h hne⟩
theorem treeHClone2_spec(F:Frz)(H:Frz){a:Option Addr}{m c:Nat}{xs:List Tree}(hx:Arr (tAt tTree H) F a m c xs)(hm:m≤10000000) :
  Abs.Spec CC 92 [.slice a m c] F [] fun F' v o=>∃B',o=[B']∧∃a' c',v=.slice a' m c'∧Vec (tAt tTree H) F' a' m c' B' xs∧(a=none→GB (tAt tTree H) F' a' m c' B' xs):=by
 refine Abs.Spec.fn (n:=8) Tryz.func92 rfl rfl fun own=>?_;refine zB4 ?_;refine WT.sliceNil hT Z Z Z Z Z Z Z Z ?_;refine zB4 ?_;refine AW.cond Z (fun h=>?_) (fun h=>?_)
 ·obtain rfl:a=none:=by simpa using h
  obtain⟨rfl,rfl⟩:=hx.nil rfl;obtain rfl:xs=[]:=List.eq_nil_of_length_eq_zero hx.len.symm;refine zB4 ?_;refine AW.le (own2:=[]::own) (OwnLe.flat (List.Perm.refl _)) ?_;exact AW.ret ⟨_,[[]],⟨_,_,rfl,rfl,rfl⟩,zsb,_,rfl,_,_,rfl,(Bld.nil_ _ _).vec,fun _=>(Bld.nil_ _ _).gb⟩
 ·have hne:a≠none:=fun e=>by rw[e] at h;cases h
  refine zB4 ?_;refine WT.buildT hT Z Z Z Z Z Z Z Z Z Z Z Z Z Z (fun i5 hi5=>?_);refine zB4 ?_;obtain⟨ds,hds,hcs⟩:=news_arr hT hx (t:=57) rfl rfl 59;refine WT.appendE hT Z Z Z Z Z Z Z Z Z Z Z Z (fun h0 s0=>hds _ h0 s0) hcs hx.len ⟨Nat.succ_pos 2,by decide⟩ zom (fun a' c' B' hB' _=>?_);refine zB4 ?_;refine AW.le (OwnLe.cons _ (OwnLe.skip _ oR)) ?_;exact AW.ret ⟨_,[_],⟨_,_,rfl,rfl,rfl⟩,zsb,_,rfl,_,_,rfl,hB',fun h=>absurd h hne⟩
structure LRT(g:Gram)(T:Tab)(I:List (List Lr))(rows:List (List Int))(la:Nat→Lr→Nat→Prop):Prop where
 auto:AutoC g I rows
 lr:LRok g (itI I) la (goR g rows)
 only:Only g (itI I) la (goR g rows) (actT T)
 alen:T.act.length=I.length
 few:T.act.length≤400
 arow:∀r∈T.act,r.length=g.terms+1
 go:T.go=rows.map (·.drop g.terms)
theorem laK_le{g:Gram}{S:List (List Look)}(h:∀st∈S,∀x∈st,x.set<2 ^ (g.terms+1)){s:Nat}{x:Lr}{t:Nat}(hl:laK S s x t):t≤g.terms:=by
 obtain⟨st,m,h1,h2,h3⟩:=hl;have h4:=h st (gM h1) _ h2;rcases Nat.lt_or_ge g.terms t with h5 | h5
 ·have h6:m<2 ^ t:=Nat.lt_of_lt_of_le h4 (Nat.pow_le_pow_right (by decide) h5);rw[Nat.testBit_lt_two_pow h6] at h3;cases h3
 ·exact h5
theorem lrt_of{g:Gram}(hg:Valid g)(ht5:g.terms≤5){method:Nat}{T:Tab}(h:tableF g method=some T)(hc:T.conf=[]):∃I rows la,LRT g T I rows la:=by
 have hsm:=tableF_sm hg ht5 h;unfold tableF at h;cases hst:statesF g method with
 | none=>rw[hst] at h;cases h
 | some a=>
  obtain⟨S,rows⟩:=a;rw[hst] at h;obtain rfl:=Option.some.inj h;obtain⟨h1,h2⟩:=statesF_ok hg hst;have hPK:=statesF_PK hg hst;refine⟨S.map itemsK,rows,laK S,h1,h2,only_ok hg h1 (fun s x t hl=>laK_le (fun st hst x hx=>((hPK st hst).2 x hx).2) hl) hc,?_,hsm.2.1,hsm.2.2.2.1,rfl⟩;show ((allF g S rows).map _).length=_;unfold allF;simp
section
variable {g:Gram}{T:Tab}{I:List (List Lr)}{rows:List (List Int)}{la:Nat→Lr→Nat→Prop}
theorem LRT.goes(hg:Valid g)(h:LRT g T I rows la){s s':Nat}{y:Sym}(hgo:goR g rows s y=some s'):s'<T.act.length:=by
 obtain⟨st,st',_,e,_⟩:=h.auto.goes hg hgo;rw[h.alen];exact(gS e).1
theorem LRT.pos(h:LRT g T I rows la):0<T.act.length:=by
 obtain⟨st,hst,_⟩:=h.auto.zero;rw[h.alen];exact(gS hst).1
theorem LRT.act(h:LRT g T I rows la){s t:Nat}(hs:s<T.act.length)(ht:t≤g.terms):∃row p,T.act[s]?=some row∧row[t]?=some p∧actT T s t=decA p:=by
 have h1:=gE hs;have hr:=h.arow T.act[s] (List.getElem_mem hs);have h2:=gE (show t<(T.act[s]).length by omega);refine⟨_,_,h1,h2,?_⟩;unfold actT;rw[getD_some h1,getD_some h2]
theorem LRT.goAt(h:LRT g T I rows la){s s' n:Nat}(hgo:goR g rows s ⟨false,n⟩=some s'):∃row,T.go[s]?=some row∧row[n]?=some (s':Int):=by
 unfold goR at hgo;split at hgo
 ·rw[h.go];cases hr:rows[s]? with
  | none=>rw[hr] at hgo;cases hgo
  | some row=>
   rw[hr] at hgo;dsimp only at hgo;have e:idxS g ⟨false,n⟩=n+g.terms:=rfl;rw[e] at hgo;cases hx:row[n+g.terms]? with
   | none=>rw[hx] at hgo;cases hgo
   | some j=>
    rw[hx] at hgo;dsimp only at hgo;split at hgo
    ·have:=Option.some.inj hgo;refine⟨row.drop g.terms,by rw[List.getElem?_map,hr];rfl,?_⟩;rw[List.getElem?_drop,Nat.add_comm,hx];congr 1;omega
    ·cases hgo
 ·cases hgo
theorem LStk.top(hg:Valid g)(h:LRT g T I rows la){w:List Nat}{σ:List Nat}{τ:List Tree}{i:Nat}(hs:LStk g (goR g rows) w σ τ i):topS σ<T.act.length:=by
 cases hs with
 | nil=>exact h.pos
 | snoc h1 h2 h3=>rw[topS_snoc];exact h.goes hg h2
theorem LStk.redAt(hg:Valid g)(h:LRT g T I rows la){w:List Nat}{σ:List Nat}{τ:List Tree}{i t k:Nat}(hs:LStk g (goR g rows) w σ τ i)(hk:actT T (topS σ) t=.red k) :
  ∃r s0 s',g.rules[k]?=some r∧r.right.length<σ.length∧r.right.length≤τ.length∧σ[σ.length-r.right.length-1]?=some s0∧goR g rows s0 ⟨false,r.left⟩=some s'∧
   redS g (goR g rows) (actT T) t (σ,τ)=(σ.take (σ.length-r.right.length)++[s'],τ.take (τ.length-r.right.length)++[.mk k 0 (τ.drop (τ.length-r.right.length))]):=by
 have h1:=h.only.one (s:=topS σ) (t:=t) (by rw[hk];exact Act.noConfusion);rw[hk] at h1;cases h1 with
 | red hr hit hla=>
  rename_i r;have hrl:=rightL_rule hr;obtain⟨σ0,s0,τ0,τ1,i0,e1,e2,e3,e4,e5,e6⟩:=LStk.under h.lr r.right.length hs hit (by rw[hrl];exact Nat.le_refl _);obtain⟨s',hs'⟩:=h.lr.fill e5 hr;have hl:=congrArg List.length e1;rw[List.length_take,List.length_append,List.length_singleton] at hl;have hl2:=hs.len.1;have hτ:τ.length=τ0.length+r.right.length:=by rw[e2,List.length_append,e3]
  refine⟨r,s0,s',hr,by omega,by omega,?_,hs',?_⟩
  ·have:(σ.take (σ.length-r.right.length))[σ0.length]?=some s0:=by rw[e1];simp
   rw[List.getElem?_take_of_lt zo] at this;rw[←this];congr 1;omega
  ·unfold redS;dsimp only;rw[hk];dsimp only;rw[hr];dsimp only;rw[topS_take e1,hs'];rfl
end
structure PP where
 method:Nat
 a1:Option Addr
 n1:Nat
 c1:Nat
 a2:Option Addr
 n2:Nat
 c2:Nat
 a3:Option Addr
 n3:Nat
 c3:Nat
 ga:Option Addr
 gm:Nat
 gc:Nat
 sa:Option Addr
 sn:Nat
 sc:Nat
 ta:Option Addr
 tn:Nat
 tc:Nat
 read:Nat
def ppCells(g:Gram)(p:PP):List Value:=[.int .i64 p.method,.slice p.a1 p.n1 p.c1,.slice p.a2 p.n2 p.c2,.slice p.a3 p.n3 p.c3,.int .i64 g.terms,.int .i64 g.nons,.int .i64 g.start,.slice p.ga p.gm p.gc,.slice p.sa p.sn p.sc,.slice p.ta p.tn p.tc,.int .i64 p.read]
structure PPOk(g:Gram)(T:Tab)(F:Frz)(p:PP)(σ:List Nat)(τ:List Tree):Prop where
 act:Arr (tList tAct) F p.a1 p.n1 p.c1 T.act
 go:Arr (tList tInt) F p.a2 p.n2 p.c2 T.go
 rules:Arr tRule F p.ga p.gm p.gc g.rules
 states:Arr tNat F p.sa p.sn p.sc σ
 trees:Arr tTree F p.ta p.tn p.tc τ
 first:τ=[]→p.ta=none
theorem PPOk.mono{g:Gram}{T:Tab}{F G:Frz}{p:PP}{σ:List Nat}{τ:List Tree}(h:PPOk g T F p σ τ)(hF:Frz.le F G):PPOk g T G p σ τ:=
 ⟨h.act.mono hF,h.go.mono hF,h.rules.mono hF,h.states.mono hF,h.trees.mono hF,h.first⟩
def actOut:Act→Act
 | .red _=>.no
 | a=>a
structure RdS where
 j:Nat
 xa:Option Addr
 xn:Nat
 xc:Nat
 B1:List (Nat×Blk)
 ya:Option Addr
 yn:Nat
 yc:Nat
 B2:List (Nat×Blk)
theorem top_at{l:List Nat}(h:l≠[]):l[l.length-1]?=some (topS l):=by
 rcases List.eq_nil_or_concat l with rfl | ⟨l',a,rfl⟩
 ·exact absurd rfl h
 ·rw[List.concat_eq_append,topS_snoc];simp
theorem vecGB2{α:Type}{R:Ty α}{F:Frz}{a:Option Addr}{n c:Nat}{B:List (Nat×Blk)}{xs:List α}(h:Vec R F a n c B xs)(hne:xs≠[]):GB R F a n c B xs:=(h.bld hne).gb
theorem own_ret{α:Type}(A B1 B2 C D:List α)(l:List (List α)):(B2::B1::C::D::l).Perm (C::D::B1::B2::l):=
 ((List.perm_append_comm (l₁:=[B2,B1]) (l₂:=[C,D])).append_right l).trans (List.Perm.cons _ (List.Perm.cons _ (List.Perm.swap _ _ _)))
theorem redS_len{g:Gram}{go:Nat→Sym→Option Nat}{act:Nat→Nat→Act}(t:Nat)(c:Conf):(redS g go act t c).1.length≤c.1.length+1∧(redS g go act t c).2.length≤c.2.length+1:=by
 unfold redS;split
 ·split
  ·dsimp only;rw[List.length_append,List.length_append,List.length_take,List.length_take,List.length_singleton,List.length_singleton];omega
  ·omega
 ·omega
theorem redN_len{g:Gram}{go:Nat→Sym→Option Nat}{act:Nat→Nat→Act}(t:Nat):∀(n:Nat) (c:Conf),(redN g go act t n c).1.length≤c.1.length+n∧(redN g go act t n c).2.length≤c.2.length+n
 | 0,c=>⟨Nat.le_refl _,Nat.le_refl _⟩
 | n+1,c=>by
  have h1:=redN_len (g:=g) (go:=go) (act:=act) t n (redS g go act t c);have h2:=redS_len (g:=g) (go:=go) (act:=act) t c;show (redN g go act t n (redS g go act t c)).1.length≤_∧(redN g go act t n (redS g go act t c)).2.length≤_;omega
theorem decA_red{p:Nat×Nat}{k:Nat}:decA p=.red k↔p=(2,k):=by
 unfold decA;split<;>simp_all
theorem decA_other{a b:Nat}(h:a≠2):actOut (decA (a,b))=decA (a,b)∧∀k,decA (a,b)≠.red k:=by
 refine⟨?_,fun k e=>?_⟩
 ·unfold actOut;split
  ·rename_i k e;have:=decA_red.1 e;simp at this;exact absurd this.1 h
  ·rfl
 ·have:=decA_red.1 e;simp at this;exact absurd this.1 h
theorem shE14{p:Prop} (h:p:=by
 refine AW.ret ⟨_,[[(pi,.cells false (ppCells g p))],[(b1,.cells false (csb++rsb))],B2],⟨_,_,rfl,⟨_,_,rfl,⟨_,_,⟨_,rfl,fun G h0 s0=>loadA_cells (s0.has (p:=0) Z me) (readT_ok hT rfl)⟩,rfl,rfl⟩,rfl⟩,rfl⟩,zsb,_,_,rfl,_,_,_,_,_,_,_,_,rfl,?_,?_,?_⟩
 ·rw[he];exact hx
 ·rw[he];exact hy
 ·rw[he];exact hact.symm.trans ho.symm):p:=h
theorem reduce_spec(F:Frz)(g:Gram)(hg:Valid g){T:Tab}{I:List (List Lr)}{rows:List (List Int)}{la:Nat→Lr→Nat→Prop}(hL:LRT g T I rows la){p:PP}{pi:Nat}{σ:List Nat}{τ:List Tree}(hp:PPOk g T F p σ τ){w:List Nat}{i:Nat}(hs:LStk g (goR g rows) w σ τ i)(hσ:σ.length≤2000000)(hw:w.length≤1000){t:Nat}(ht:t≤g.terms) :
  Abs.Spec CC 48 [.pointer (some ⟨pi,0,none⟩),.int .i64 t] F [[(pi,.cells false (ppCells g p))]] fun F' v o=>∃B1 B2,o=[[(pi,.cells false (ppCells g p))],B1,B2]∧∃xa xn xc ya yn yc a b,v=.tuple ⟨[.slice xa xn xc,.slice ya yn yc,.agg ⟨[.int .i64 (a:Nat),.int .i64 (b:Nat)]⟩]⟩∧
   GB tNat F' xa xn xc B1 (redN g (goR g rows) (actT T) t 100000 (σ,τ)).1∧GB tTree F' ya yn yc B2 (redN g (goR g rows) (actT T) t 100000 (σ,τ)).2∧decA (a,b)=actOut (actT T (topS (redN g (goR g rows) (actT T) t 100000 (σ,τ)).1) t):=by
 have hsl:=hp.states.len;have htl:=hp.trees.len;have hal:=hp.act.len;have hgl:=hp.go.len;have hrl:=hp.rules.len;have hfew:=hL.few;have hgr:=hg.range.rules;have hgt:=hg.range.terms;have hst:=hs.len;have hgl2:T.go.length=T.act.length:=by rw[hL.go,List.length_map,hL.auto.len,hL.alen]
 unfold ppCells;refine Abs.Spec.fn (n:=128) Tryz.func48 rfl rfl fun own=>?_;refine zC5 ?_;refine WT.allocT hT Z Z Z Z Z Z (fun i6 hi6=>?_);refine zC5 ?_;refine AW.draw (ps:=[(8,4)]) Z Z ?_;refine zC5 ?_;refine WT.callN Tryz.func66 Z Z Z Z Z Z (natClone2_spec F hp.states zo) (fun F1 v B1 hF1 hv=>?_);obtain⟨xa,xc,rfl,hx,_⟩:=hv;have hp1:=hp.mono hF1;refine zC5 ?_;refine WT.callN Tryz.func92 Z Z Z Z Z Z (treeHClone2_spec F1 F1 (arrAt hp1.trees) zo) (fun F2 v B2 hF2 hv=>?_);obtain⟨ya,yc,rfl,hy,hy0⟩:=hv;have hp2:=hp1.mono hF2;have hσne:σ≠[]:=fun e=>by rw[e] at hst;simp at hst
 have hx:=vecGB2 (hx.mono hF2) hσne;have hy:GB tTree F2 ya p.tn yc B2 τ:=by
  by_cases e:τ=[]
  ·have h1:=hy0 (hp.first e)
   exact⟨h1.len,h1.at_.imp id fun ⟨i,cs,rest,g1,g2,g3,g4,g5⟩=>⟨i,cs,rest,g1,g2,g3,cells_of g4 hF2,g5⟩⟩
  ·exact vecGB2 (vecOf hy hF2) e
 refine zC5 ?_;refine⟨zrC,?_⟩;refine zC5 ?_;refine AW.block ?_;refine AW.loopR (S:=RdS) (fun s=>[(25,.int .i64 (s.j:Nat)),(7,.slice s.xa s.xn s.xc),(8,.slice s.ya s.yn s.yc)]) (fun s=>s.B2::s.B1::[(i6,.cells false [.int .i64 0,.int .i64 0])]::[(pi,.cells false (ppCells g p))]::own)
  (fun s G=>s.j≤100000∧GB tNat G s.xa s.xn s.xc s.B1 (redN g (goR g rows) (actT T) t s.j (σ,τ)).1∧GB tTree G s.ya s.yn s.yc s.B2 (redN g (goR g rows) (actT T) t s.j (σ,τ)).2) (fun s=>100000-s.j) ⟨0,xa,p.sn,xc,B1,ya,p.tn,yc,B2⟩ sM oR ⟨Nat.zero_le _,hx,hy⟩ ?_
 intro s F3 hF3 hP;obtain⟨j,xa,xn,xc,B1,ya,yn,yc,B2⟩:=s;obtain⟨hj,hx,hy⟩:=hP;dsimp only at hj hx hy;have hp3:=hp2.mono hF3;have hs3:=LStk.redN hL.lr hL.only (t:=t) j (c:=(σ,τ)) hs;have hln:=redN_len (g:=g) (go:=goR g rows) (act:=actT T) t j (σ,τ);have hend:∀k,j=k→(∀q,actT T (topS (redN g (goR g rows) (actT T) t k (σ,τ)).1) t≠.red q)→redN g (goR g rows) (actT T) t 100000 (σ,τ)=redN g (goR g rows) (actT T) t k (σ,τ):=fun k hk h=>redN_end rfl zo h;have hsuc:redN g (goR g rows) (actT T) t (j+1) (σ,τ)=redS g (goR g rows) (actT T) t (redN g (goR g rows) (actT T) t j (σ,τ)):=redN_last t j (σ,τ)
 have hlast:j=100000→redN g (goR g rows) (actT T) t 100000 (σ,τ)=redN g (goR g rows) (actT T) t j (σ,τ):=fun h=>by rw[h]
 have hend:=hend j rfl;generalize redN g (goR g rows) (actT T) t j (σ,τ)=cj at hx hy hs3 hln hend hsuc hlast;obtain⟨σj,τj⟩:=cj;have hxl:=hx.len;have hyl:=hy.len;have hs3l:=hs3.len;have htop:=hs3.top hg hL;have hne:σj≠[]:=fun e=>by rw[e] at hs3l;simp at hs3l
 have htat:=top_at hne;dsimp only at hx hy hxl hyl hs3l hln htop htat hend hsuc hlast hs3;obtain⟨ib,csb,rsb,rfl,rfl,rfl,hxc,_⟩:=hx.at_pos htat;obtain⟨row,⟨a,b⟩,hra,hrb,hact⟩:=hL.act htop ht;have hrow:=hL.arow row (gM hra);unfold ppCells;dsimp only;refine zC5 ?_;refine AW.cond Z (fun hk=>?_) (fun hk=>?_)
 ·have hk:j<100000:=by simp at hk;omega
  refine zC5 ?_;refine AW.block ?_;refine zC5 ?_;refine AW.draw (ps:=[(4,16),(7,16),(8,16),(10,16),(12,16),(15,16)]) Z Z ?_;refine zC5 ?_;refine WT.gidx (j:=xn-1) hT hx Z Z Z Z Z Z Z Z Z zo (fun b1 hb1=>?_);refine WT.gld1 (x:=topS σj) hT 1 hx hb1 (by rw[hxl];exact htat) Z Z Z Z Z Z (fun z hz=>hz) Z Z Z (fun v hv=>?_);obtain rfl:b1=ib:=by cases hb1;rfl
  obtain rfl:v=_:=(List.singleton_inj.1 hv);refine WT.idxL hT hp3.act Z Z Z Z Z Z Z Z Z zo (fun row' hr1 b2 off2 ro2 cs2 lx2 hb2 hp2' hrel2=>?_);obtain rfl:row'=row:=by rw[hra] at hr1;exact(Option.some.inj hr1).symm
  obtain⟨ra,rn,rc,rfl,hrow3⟩:=hrel2;have hrow3l:=hrow3.len;refine zC5 ?_;refine WT.idxL hT hrow3 Z Z Z Z Z Z Z Z Z zo (fun q hr2 b3 off3 ro3 cs3 lx3 hb3 hp3' hrel3=>?_);obtain rfl:q=(a,b):=by rw[hrb] at hr2;exact(Option.some.inj hr2).symm
  obtain rfl:lx3=_:=hrel3;refine zC5 ?_;refine WT.allocT hT Z Z Z Z Z Z (fun i9 hi9=>?_);refine zC5 ?_;refine⟨(by repeat (first | exact trivial | refine recs_pair rfl rfl (by first | exact keep0 | exact kp 3 4 me me | exact kp 1 2 me me | exact keep1 (keeps_frz hb2) | exact keep1 (keeps_frz hb3)) ?_)),?_⟩
  refine zC5 ?_;refine AW.cond Z (fun h2=>?_) (fun h2=>?_)
  ·have h2:a≠2:=by intro e;subst e;simp at h2
   obtain⟨ho,hn⟩:=decA_other (b:=b) h2;rw[←hact] at ho hn;refine zC5 ?_;refine AW.le (OwnLe.skip _ (OwnLe.perm (own_ret [] _ _ _ _ _))) ?_;have he:=hend hn;exact shE14
  ·have h2:a=2:=by simp at h2;omega
   subst h2;have hact:actT T (topS σj) t=.red b:=hact;obtain⟨r,s0,s',hr1,hr2,hr3,hr4,hr5,hr6⟩:=hs3.redAt hg hL hact;rw[hr6] at hsuc;have hbl:=(gS hr1).1;have hrr:=hg.right r (gM hr1);refine zC5 ?_;refine AW.draw (ps:=[(4,9),(6,9),(8,9)]) Z Z ?_;refine zC5 ?_;refine WT.idxL hT hp3.rules Z Z Z Z Z Z Z Z Z zo (fun r' hq1 b4 off4 ro4 cs4 lx4 hb4 hp4' hrel4=>?_);obtain rfl:r'=r:=by rw[hr1] at hq1;exact(Option.some.inj hq1).symm
   obtain⟨qa,qn,qc,rfl,hright⟩:=hrel4;have hqn:=hright.len;refine zC5 ?_;refine WT.allocT hT Z Z Z Z Z Z (fun i10 hi10=>?_);refine zC5 ?_;refine⟨(by repeat (first | exact trivial | refine recs_pair rfl rfl (by first | exact keep0 | exact kp 4 5 me me | exact kp 0 1 me me | exact keep1 (keeps_frz hb4)) ?_)),?_⟩
   refine zC6 ?_;refine AW.draw (ps:=[(1,5),(1,7),(4,7)]) Z Z ?_;refine zC6 ?_;obtain⟨ka,kc,hks,hka⟩:=gbTail (C:=CC) (gbAt (G:=F3) hy) (lo:=yn-qn) zo hT (t:=57) Z Z Z;refine WT.slice Z Z Z Z Z Z Z Z hks ?_;refine WT.callLendN (P:=fun v B'=>∃a2 c2,v=.slice a2 (yn-(yn-qn)) c2∧Vec tTree F3 a2 (yn-(yn-qn)) c2 B' (τj.drop (yn-qn))) 2 Tryz.func92 Z Z Z Z Z Z Z (fun G hG hBG=>Spec.mono (treeHClone2_spec G F3 (hka G hG hBG) zo) (fun F' v o hF' ⟨B',e1,a',c',e2,hV,_⟩=>⟨B',e1,a',c',e2,vecOf hV (Frz.le.refl F3)⟩)) (fun v BK hv=>?_);obtain⟨ka2,kc2,rfl,hkv⟩:=hv;refine WT.freezeAll 0 Z Z (fun F4 hF4 hB4=>?_)
   have hkids:=hkv.arr hF4 hB4;have hkl:=hkids.len;refine zC6 ?_;refine WT.allocT hT Z Z Z Z Z Z (fun i13 hi13=>?_);refine zC6 ?_;refine⟨(by repeat (first | exact trivial | refine recs_pair rfl rfl (by first | exact keep0 | exact kp 1 2 me me | exact kp 2 3 me me) ?_)),?_⟩
   refine zC8 ?_;refine AW.draw (ps:=[(2,19)]) Z Z ?_;refine zC8 ?_;have hx4:=hx.mono hF4;have hy4:=hy.mono hF4;have hp4:=hp3.mono hF4;refine WT.sliceG hT hx4 Z Z Z Z Z Z Z Z Z (show xn-qn≤xn by omega) ?_;refine zC8 ?_;refine WT.gidx (j:=xn-qn-1) hT hx4 Z Z Z Z Z Z Z Z Z zo (fun b5 hb5=>?_);refine WT.gld1 (x:=s0) hT 5 hx4 hb5 (by rw[hxl,hqn];exact hr4) Z Z Z Z Z Z (fun z hz=>hz) Z Z Z (fun v hv=>?_);obtain rfl:v=_:=(List.singleton_inj.1 hv);obtain⟨grow,hg1,hg2⟩:=hL.goAt hr5;have hgb:=(gS hg1).1;have hgb2:=(gS hg2).1
   refine WT.idxL hT hp4.go Z Z Z Z Z Z Z Z Z zo (fun grow' hg3 b6 off6 ro6 cs6 lx6 hb6 hp6' hrel6=>?_);obtain rfl:grow'=grow:=by rw[hg1] at hg3;exact(Option.some.inj hg3).symm
   obtain⟨za,zn,zc,rfl,hgrow⟩:=hrel6;have hgrl:=hgrow.len;refine zC8 ?_;refine WT.idxL hT hgrow Z Z Z Z Z Z Z Z Z zo (fun z hg4 b7 off7 ro7 cs7 lx7 hb7 hp7' hrel7=>?_);obtain rfl:z=(s':Int):=by rw[hg2] at hg4;exact(Option.some.inj hg4).symm
   obtain rfl:lx7=_:=hrel7;refine zC8 ?_;refine WT.buildT hT Z Z Z Z Z Z Z Z Z Z Z Z Z Z (fun i33 hi33=>?_);refine WT.appendG (R:=tNat) (ys:=[s']) hT 6 (hx4.take (show xn-qn≤xn by omega)) Z (fun _=>rfl) Z Z Z Z Z Z Z Z Z Z Z (fun h0 s0=>news_own hT s0 0 Z Z Z Z) (Cells.single (R:=tNat) (x:=s') rfl) Z (by decide) zom (fun a8 c8 B8 hB8=>?_);refine zC8 ?_;refine⟨(by repeat (first | exact trivial | refine recs_pair rfl rfl (by first | exact keep0) ?_)),?_⟩
   refine AW.draw (ps:=[(2,4)]) Z Z ?_;refine zC8 ?_;refine WT.sliceG hT hy4 Z Z Z Z Z Z Z Z Z (show yn-qn≤yn by omega) ?_;refine zC8 ?_;refine WT.buildT hT Z Z Z Z Z Z Z Z Z Z Z Z Z Z (fun i34 hi34=>?_);refine WT.appendG (R:=tTree) (ys:=[.mk b 0 (τj.drop (yn-qn))]) hT 6 (hy4.take (show yn-qn≤yn by omega)) Z (fun _=>rfl) Z Z Z Z Z Z Z Z Z Z Z (fun h0 s0=>news_own hT s0 0 Z Z Z Z) (Cells.single (R:=tTree) (x:=.mk b 0 (τj.drop (yn-qn))) (tTree_mk hkids (by rw[List.length_drop];omega))) Z (by decide) zom (fun a9 c9 B9 hB9=>?_);refine zC8 ?_
   refine⟨(by repeat (first | exact trivial | refine recs_pair rfl rfl (by first | exact keep0) ?_)),?_⟩
   refine zC8 ?_;have ex:xn-qn=σj.length-r'.right.length:=by omega
   have ey:yn-qn=τj.length-r'.right.length:=by omega
   refine⟨⟨j+1,a8,xn-qn+1,c8,B8,a9,yn-qn+1,c9,B9⟩,by show 100000-(j+1)<100000-j;omega,sM,zow,?_,?_,?_⟩
   ·show j+1≤100000;omega
   ·show GB tNat _ a8 (xn-qn+1) c8 B8 (redN g (goR g rows) (actT T) t (j+1) (σ,τ)).1;rw[hsuc,←ex];exact hB8.gb
   ·show GB tTree _ a9 (yn-qn+1) c9 B9 (redN g (goR g rows) (actT T) t (j+1) (σ,τ)).2;rw[hsuc,←ey];exact hB9.gb
 ·have hk:j=100000:=by simp at hk;omega
  have he:=hlast hk;refine AW.exit ?_;refine zC5 ?_;refine AW.draw (ps:=[(4,16),(7,16),(8,16),(10,16),(12,16),(15,16)]) Z Z ?_;refine zC5 ?_;refine WT.gidx (j:=xn-1) hT hx Z Z Z Z Z Z Z Z Z zo (fun b1 hb1=>?_);refine WT.gld1 (x:=topS σj) hT 1 hx hb1 (by rw[hxl];exact htat) Z Z Z Z Z Z (fun z hz=>hz) Z Z Z (fun v hv=>?_);obtain rfl:b1=ib:=by cases hb1;rfl
  obtain rfl:v=_:=(List.singleton_inj.1 hv);refine WT.idxL hT hp3.act Z Z Z Z Z Z Z Z Z zo (fun row' hr1 b2 off2 ro2 cs2 lx2 hb2 hp2' hrel2=>?_);obtain rfl:row'=row:=by rw[hra] at hr1;exact(Option.some.inj hr1).symm
  obtain⟨ra,rn,rc,rfl,hrow3⟩:=hrel2;have hrow3l:=hrow3.len;refine zC5 ?_;refine WT.idxL hT hrow3 Z Z Z Z Z Z Z Z Z zo (fun q hr2 b3 off3 ro3 cs3 lx3 hb3 hp3' hrel3=>?_);obtain rfl:q=(a,b):=by rw[hrb] at hr2;exact(Option.some.inj hr2).symm
  obtain rfl:lx3=_:=hrel3;refine zC5 ?_;refine WT.allocT hT Z Z Z Z Z Z (fun i9 hi9=>?_);refine zC5 ?_;refine⟨(by repeat (first | exact trivial | refine recs_pair rfl rfl (by first | exact keep0 | exact kp 3 4 me me | exact kp 1 2 me me | exact keep1 (keeps_frz hb2) | exact keep1 (keeps_frz hb3)) ?_)),?_⟩
  refine zC5 ?_;refine AW.cond Z (fun h2=>?_) (fun h2=>?_)
  ·have h2:a=2:=by simp at h2;omega
   subst h2;have hact:actT T (topS σj) t=.red b:=hact;refine zC5 ?_;refine AW.le (OwnLe.skip _ (OwnLe.perm (own_ret [] _ _ _ _ _))) ?_;refine AW.ret ⟨_,[[(pi,.cells false (ppCells g p))],[(b1,.cells false (csb++rsb))],B2],⟨_,_,rfl,⟨_,_,rfl,⟨_,_,⟨_,rfl,fun G h0 s0=>loadA_cells (s0.has (p:=0) Z me) (readT_ok hT rfl)⟩,rfl,rfl⟩,rfl⟩,rfl⟩,zsb,_,_,rfl,_,_,_,_,_,_,(0:Nat),(0:Nat),rfl,?_,?_,?_⟩
   ·rw[he];exact hx
   ·rw[he];exact hy
   ·rw[he];show decA (0,0)=actOut (actT T (topS σj) t);rw[hact];rfl
  ·have h2:a≠2:=by intro e;subst e;simp at h2
   obtain⟨ho,hn⟩:=decA_other (b:=b) h2;rw[←hact] at ho hn;refine zC5 ?_;refine AW.le (OwnLe.skip _ (OwnLe.perm (own_ret [] _ _ _ _ _))) ?_;exact shE14
def closStep(g:Gram)(L:List Lr):List Lr:=(List.range g.rules.length).filterMap fun k=>match g.rules[k]? with
 | some r=>if L.any (fun x=>decide (afterL g x=some ⟨false,r.left⟩)) then some ⟨k,0⟩ else none
 | none=>none
def closIt(g:Gram):Nat→List Lr→List Lr
 | 0,L=>L
 | n+1,L=>closIt g n (L++(closStep g L).filter fun z=>!decide (z∈L))
def closC(g:Gram)(l:List Lr):Option (List Lr):=
 if (closStep g (closIt g (g.rules.length+1) l)).all fun z=>decide (z∈closIt g (g.rules.length+1) l) then some ((allLr g).filter fun z=>decide (z∈closIt g (g.rules.length+1) l)) else none
theorem mem_closStep{g:Gram}{L:List Lr}{z:Lr}:z∈closStep g L↔∃k r x,z=⟨k,0⟩∧g.rules[k]?=some r∧x∈L∧afterL g x=some ⟨false,r.left⟩:=by
 unfold closStep;rw[List.mem_filterMap];constructor
 ·rintro⟨k,hk,h⟩;split at h
  ·rename_i r hr;split at h
   ·rename_i ha;obtain⟨x,hx,hd⟩:=List.any_eq_true.1 ha;exact⟨k,r,x,(Option.some.inj h).symm,hr,hx,of_decide_eq_true hd⟩
   ·cases h
  ·cases h
 ·rintro⟨k,r,x,rfl,hr,hx,ha⟩;refine⟨k,List.mem_range.2 (gS hr).1,?_⟩;rw[hr];dsimp only;rw[if_pos (List.any_eq_true.2 ⟨x,hx,decide_eq_true ha⟩)]
theorem closIt_sound{g:Gram}{l:List Lr}:∀(n:Nat) {L:List Lr},(∀x∈L,Clos g l x)→∀x∈closIt g n L,Clos g l x
 | 0,_,h=>h
 | n+1,L,h=>closIt_sound n (L:=L++(closStep g L).filter fun z=>!decide (z∈L)) fun x hx=>by
  rcases List.mem_append.1 hx with hx | hx
  ·exact h x hx
  ·obtain⟨k,r,y,rfl,hr,hy,ha⟩:=mem_closStep.1 (List.mem_filter.1 hx).1;exact .more (h y hy) ha hr rfl
theorem closIt_more{g:Gram}:∀(n:Nat) {L:List Lr} {x:Lr},x∈L→x∈closIt g n L
 | 0,_,_,h=>h
 | n+1,L,x,h=>closIt_more n (List.mem_append_left _ h)
theorem closC_ok{g:Gram}{l m:List Lr}(h:closC g l=some m):closL g l=m:=by
 unfold closC at h;split at h
 ·rename_i hc;obtain rfl:=Option.some.inj h;unfold closL;refine List.filter_congr fun z hz0=>?_;clear hz0;rw[Bool.eq_iff_iff,@decide_eq_true_iff _ (Classical.propDecidable _),decide_eq_true_iff];constructor
  ·intro hz
   induction hz with
   | base h=>exact closIt_more _ h
   | more h1 h2 h3 h4 ih=>
    subst h4;exact of_decide_eq_true (List.all_eq_true.1 hc _ (mem_closStep.2 ⟨_,_,_,rfl,h3,ih,h2⟩))
  ·exact closIt_sound _ (fun x hx=>.base hx) z
 ·cases h
def stepC(g:Gram)(st:List Lr):List Sym→Option (List (Option (List Lr)))
 | []=>some []
 | y::ys=>match stepC g st ys with
  | none=>none
  | some os=>if kern g st y=[] then some (none::os) else match closC g (kern g st y) with
   | none=>none
   | some s=>some (some s::os)
theorem stepC_ok{g:Gram}{st:List Lr}:∀{ys:List Sym} {os:List (Option (List Lr))},stepC g st ys=some os→(ys.map fun y=>if kern g st y=[] then none else some (closL g (kern g st y)))=os
 | [],os,h=>by cases h;rfl
 | y::ys,os,h=>by
  unfold stepC at h;cases h1:stepC g st ys with
  | none=>rw[h1] at h;cases h
  | some os1=>
   rw[h1] at h;dsimp only at h;rw[List.map_cons,stepC_ok h1];split at h
   ·rename_i hk;cases h;rw[if_pos hk]
   ·rename_i hk;cases h2:closC g (kern g st y) with
    | none=>rw[h2] at h;cases h
    | some s=>
     rw[h2] at h;cases h;rw[if_neg hk,closC_ok h2]
def numC(g:Gram):Nat→Nat→List (List Lr)→List (List Int)→Option (List (List Lr)×List (List Int))
 | 0,_,_,_=>none
 | f+1,i,sts,rows=>match sts[i]? with
  | none=>some (sts,rows)
  | some st=>match stepC g st (symsL g) with
   | none=>none
   | some os=>if (addAll sts os).1.length≤400 then numC g f (i+1) (addAll sts os).1 (rows++[(addAll sts os).2]) else none
theorem numC_ok{g:Gram}:∀(f f' i:Nat) {sts:List (List Lr)} {rows:List (List Int)} {r},f≤f'→numC g f i sts rows=some r→numF 400 (stepI g) f' i sts rows=some r
 | 0,_,_,_,_,_,_,h=>by cases h
 | f+1,0,_,_,_,_,hf,_=>by omega
 | f+1,f'+1,i,sts,rows,r,hf,h=>by
  unfold numC at h;unfold numF;cases hs:sts[i]? with
  | none=>rw[hs] at h;exact h
  | some st=>
   rw[hs] at h;dsimp only at h ⊢;cases h1:stepC g st (symsL g) with
   | none=>rw[h1] at h;cases h
   | some os=>
    rw[h1] at h;dsimp only at h;have e:stepI g st=os:=stepC_ok h1;rw[e];split at h
    ·rename_i hl;rw[if_pos hl];exact numC_ok f f' (i+1) zo h
    ·cases h
def autoC(g:Gram):Option (List (List Lr)×List (List Int)):=match closC g [⟨g.rules.length,0⟩] with
 | none=>none
 | some s=>numC g 40 0 [s] []
theorem autoC_ok{g:Gram}{r}(h:autoC g=some r):autoI g=some r:=by
 unfold autoC at h;cases h1:closC g [⟨g.rules.length,0⟩] with
 | none=>rw[h1] at h;cases h
 | some s=>
  rw[h1] at h;unfold autoI firstI;rw[closC_ok h1];exact numC_ok 40 401 0 (by decide) h
def plainB(g:Gram)(a:List (List Lr)×List (List Int)):Bool:=(List.range a.1.length).all fun s=>(List.range (g.terms+1)).all fun t=>
 decide ((if t<g.terms then (match ((a.2.getD s [])[t]?) with | some j=>if 0≤j then 1 else 0 | none=>0) else 0)+((a.1.getD s []).filter fun x=>decide (afterL g x=none)).length≤1)
theorem filterMap_le{α β:Type}(f:α→Option β)(p:α→Bool)(h:∀a b,f a=some b→p a=true):∀l:List α,(l.filterMap f).length≤(l.filter p).length
 | []=>Nat.le_refl _
 | a::l=>by
  have ih:=filterMap_le f p h l;rw[List.filterMap_cons];cases hf:f a with
  | none=>
   dsimp only;rw[List.filter_cons];split
   ·rw[List.length_cons];omega
   ·exact ih
  | some b=>
   dsimp only;rw[List.filter_cons,if_pos (h a b hf),List.length_cons,List.length_cons];omega
theorem plain_conf{g:Gram}{I:List (List Lr)}{rows:List (List Int)}(h:plainB g (I,rows)=true)(la:Nat→Lr→Nat→Prop):(tabF (allF g (lookS g I la) rows) (rows.map (·.drop g.terms))).conf=[]:=by
 have hconf:(tabF (allF g (lookS g I la) rows) (rows.map (·.drop g.terms))).conf=confsTo (allF g (lookS g I la) rows) (allF g (lookS g I la) rows).length:=rfl;rw[hconf];unfold confsTo;rw[List.flatten_eq_nil_iff];intro l hl;obtain⟨s,hs,rfl⟩:=List.mem_map.1 hl;have hs:=List.mem_range.1 hs;have hlen:(allF g (lookS g I la) rows).length=I.length:=by
  unfold allF;rw[List.length_map,List.length_range];have:=congrArg List.length (lookS_items (g:=g) (I:=I) (la:=la))
  rwa [List.length_map] at this
 have hsl:(lookS g I la).length=I.length:=by
  have:=congrArg List.length (lookS_items (g:=g) (I:=I) (la:=la))
  rwa [List.length_map] at this
 rw[hlen] at hs;unfold confRow;rw[List.filterMap_eq_nil_iff];intro t ht;have ht:=List.mem_range.1 ht;have hr:(allF g (lookS g I la) rows).getD s []=(List.range (g.terms+1)).map fun t=>actsF g ((lookS g I la).getD s []) (rows.getD s []) t:=getD_some (map_at (List.getElem?_range zo));rw[hr] at ht ⊢;rw[List.length_map,List.length_range] at ht;rw[getD_some (map_at (List.getElem?_range ht))];rw[if_neg];have h1:=List.all_eq_true.1 h s (List.mem_range.2 hs);have h2:=of_decide_eq_true (List.all_eq_true.1 h1 t (List.mem_range.2 ht));have hst:=gE hs;generalize I[s]=st at hst
 have e:(lookS g I la).getD s []=st.map fun x=>⟨x,maskOf (la s x) (g.terms+1)⟩:=getD_some (by rw[lookS_at,hst];rfl);rw[getD_some hst] at h2;rw[e];rw[actsF_eq,List.length_append];have h3:(actPre g (rows.getD s []) t).length=(if t<g.terms then (match (rows.getD s [])[t]? with | some j=>if 0≤j then 1 else 0 | none=>0) else 0):=by
  unfold actPre;split
  ·cases (rows.getD s [])[t]? with
   | none=>rfl
   | some j=>
    dsimp only;split<;>rfl
  ·rfl
 have h4:=filterMap_le (actOne g t) (fun lk:Look=>decide (afterL g lk.item=none)) (fun a b hb=>by
  unfold actOne at hb;split at hb
  ·rename_i hc;exact decide_eq_true hc.1
  ·cases hb) (st.map fun x=>⟨x,maskOf (la s x) (g.terms+1)⟩)
 rw[List.filter_map,List.length_map] at h4;have h5:(fun lk:Look=>decide (afterL g lk.item=none)) ∘ (fun x=>(⟨x,maskOf (la s x) (g.terms+1)⟩:Look))=fun x=>decide (afterL g x=none):=rfl;rw[h5] at h4;rw[h3];dsimp only at h2;omega
def chainG:Gram:=⟨2,1,0,[⟨0,[⟨true,0⟩,⟨false,0⟩]⟩,⟨0,[⟨true,1⟩]⟩]⟩
theorem chain_small:Small chainG where
 terms:=by decide
 nons:=by decide
 start:=by decide
 rules:=by decide
 nodup:=by decide
 ok:=by
  intro r hr;simp only[chainG,List.mem_cons,List.not_mem_nil,or_false] at hr;rcases hr with rfl | rfl
  ·refine⟨by decide,by decide,fun y hy=>?_⟩;simp only[List.mem_cons,List.not_mem_nil,or_false] at hy;rcases hy with rfl | rfl<;>simp[SymOk,chainG]
  ·refine⟨by decide,by decide,fun y hy=>?_⟩;simp only[List.mem_cons,List.not_mem_nil,or_false] at hy;subst hy;simp[SymOk,chainG]
theorem chain_auto:∃a,autoC chainG=some a∧plainB chainG a=true:=by
 have h:(match autoC chainG with | some a=>plainB chainG a | none=>false)=true:=by decide +kernel
 cases ha:autoC chainG with
 | none=>rw[ha] at h;cases h
 | some a=>rw[ha] at h;exact⟨a,rfl,h⟩
theorem chain_tab:∃T,tableF chainG 2=some T∧T.conf=[]:=by
 obtain⟨⟨I,rows⟩,h1,h2⟩:=chain_auto;have h3:=autoC_ok h1;refine⟨_,?_,plain_conf h2 (LalA chainG I rows)⟩;unfold tableF statesF;rw[if_neg (by decide),h3];rfl
theorem chain_word{n:Nat}(h:n<chainG.nons):HasWord chainG n:=by
 have h:n<1:=h;obtain rfl:n=0:=by omega
 exact⟨[1],.non (r:=⟨0,[⟨true,1⟩]⟩) (by simp[chainG]) (.cons (.term rfl) .nil)⟩
theorem chain_tree:TreeOf chainG [0,1] ⟨false,0⟩ (.mk 0 0 [.mk (-1) 0 [],.mk 1 0 [.mk (-1) 1 []]]) 0 2:=
 .node (k:=0) (r:=⟨0,[⟨true,0⟩,⟨false,0⟩]⟩) rfl (.cons (.leaf rfl) (.cons (.node (k:=1) (r:=⟨0,[⟨true,1⟩]⟩) rfl (.cons (.leaf rfl) .nil)) .nil))
theorem chain_one:TreeOf chainG [1] ⟨false,0⟩ (.mk 1 0 [.mk (-1) 1 []]) 0 1:=.node (k:=1) (r:=⟨0,[⟨true,1⟩]⟩) rfl (.cons (.leaf rfl) .nil)
theorem chain_ends{w:List Nat}{j:Nat}(h:Der chainG w ⟨false,0⟩ 0 j)(h0:w[0]?=some 1):j=1:=by
 obtain⟨T,hT⟩:=Der.tree h;generalize hs:(⟨false,0⟩:Sym)=s at hT;cases hT with
 | leaf _=>cases hs
 | @node k r ks _ _ hr hk=>
  have hr:=gM hr;simp only[chainG,List.mem_cons,List.not_mem_nil,or_false] at hr;rcases hr with rfl | rfl
  ·cases hk with
   | cons h1 _=>
    cases h1 with
    | leaf h=>rw[h0] at h;cases h
  ·cases hk with
   | cons h1 h2=>
    cases h1 with
    | leaf h=>cases h2;rfl
theorem actOut_shift{x:Act}{s:Nat}:actOut x=.shift s↔x=.shift s:=by cases x<;>simp[actOut]
theorem actOut_acc{x:Act}:actOut x=.acc↔x=.acc:=by cases x<;>simp[actOut]
theorem decA_shift{a b s:Nat}:decA (a,b)=.shift s↔a=1∧b=s:=by
 unfold decA;split<;>simp_all
theorem decA_acc{a b:Nat}:decA (a,b)=.acc↔a=3:=by
 unfold decA;split<;>simp_all
theorem own_tr(A B C D:List (Nat×Blk))(l:Own):OwnLe (D::A::l) (A::B::C::D::l):=
 (OwnLe.perm (List.Perm.swap _ _ _)).trans (OwnLe.sub (List.Sublist.cons_cons _ (List.Sublist.cons _ (List.Sublist.cons _ (List.Sublist.refl _)))))
def PP.next(p:PP)(sa:Option Addr)(sn sc:Nat)(ta:Option Addr)(tn tc:Nat):PP:={ p with sa:=sa,sn:=sn,sc:=sc,ta:=ta,tn:=tn,tc:=tc,read:=p.read+1 }
theorem put_spec(F:Frz)(g:Gram)(hg:Valid g){T:Tab}{I:List (List Lr)}{rows:List (List Int)}{la:Nat→Lr→Nat→Prop}(hL:LRT g T I rows la){p:PP}{pi:Nat}{σ:List Nat}{τ:List Tree}(hp:PPOk g T F p σ τ){w:List Nat}{i:Nat}(hs:LStk g (goR g rows) w σ τ i)(hσ:σ.length≤2000000)(hw:w.length≤1000){t:Nat}(ht:t<g.terms)(hrd:p.read<2000) :
  Abs.Spec CC 20 [.pointer (some ⟨pi,0,none⟩),.int .i64 t] F [[(pi,.cells false (ppCells g p))]] fun F' v o=>∃p',o=[[(pi,.cells false (ppCells g p'))]]∧
   ((v=.int .i64 0∧p'.read=p.read+1∧∃s',actT T (topS (redN g (goR g rows) (actT T) t 100000 (σ,τ)).1) t=.shift s'∧PPOk g T F' p' ((redN g (goR g rows) (actT T) t 100000 (σ,τ)).1++[s']) ((redN g (goR g rows) (actT T) t 100000 (σ,τ)).2++[.mk (-1) t []]))∨
    (v=.int .i64 10∧p'=p∧∀s',actT T (topS (redN g (goR g rows) (actT T) t 100000 (σ,τ)).1) t≠.shift s')):=by
 have hgt:=hg.range.terms;have hst:=hs.len;unfold ppCells;refine Abs.Spec.fn (n:=57) Tryz.func20 rfl rfl fun own=>?_;refine zC5 ?_;refine AW.cond Z (fun h=>(by exfalso;simp at h;omega)) (fun _=>?_);refine zC5 ?_;refine AW.cond Z (fun h=>(by exfalso;simp at h;omega)) (fun _=>?_);refine zC5 ?_;have hrs:=reduce_spec F g hg hL hp hs hσ hw (pi:=pi) (t:=t) zo;have hln:=redN_len (g:=g) (go:=goR g rows) (act:=actT T) t 100000 (σ,τ);generalize redN g (goR g rows) (actT T) t 100000 (σ,τ)=cN at hrs hln;obtain⟨σN,τN⟩:=cN;dsimp only at hrs hln ⊢;unfold ppCells at hrs
 refine WT.callF (oin:=[[(pi,.cells false (ppCells g p))]]) Tryz.func48 Z Z Z Z Z Z hrs (List.Perm.refl _) (fun F1 v oout hF1 hv=>?_);obtain⟨B1,B2,rfl,xa,xn,xc,ya,yn,yc,a,b,rfl,hx,hy,hact⟩:=hv;have hxl:=hx.len;have hyl:=hy.len;have hp1:=hp.mono hF1;refine zC5 ?_;refine WT.allocT hT Z Z Z Z Z Z (fun i7 hi7=>?_);refine zC5 ?_;refine AW.cond Z (fun h=>?_) (fun h=>?_)
 ·have h:a≠1:=by intro e;subst e;simp at h
  refine zC5 ?_;refine AW.ret ⟨_,[[(pi,.cells false (ppCells g p))]],⟨_,_,rfl,rfl,rfl⟩,?_,p,rfl,.inr ⟨rfl,rfl,fun s' e=>?_⟩⟩
  ·exact List.Sublist.cons _ (List.Sublist.cons_cons _ (List.Sublist.cons _ (List.Sublist.cons _ (List.Sublist.refl _))))
  ·rw[e] at hact;exact h (decA_shift.1 hact).1
 ·have h:a=1:=by simp at h;omega
  subst h;have hsh:actT T (topS σN) t=.shift b:=actOut_shift.1 (hact.symm.trans rfl);refine zC6 ?_;refine WT.buildT hT Z Z Z Z Z Z Z Z Z Z Z Z Z Z (fun i33 hi33=>?_);refine WT.appendG (R:=tNat) (ys:=[b]) hT 3 hx Z (fun _=>rfl) Z Z Z Z Z Z Z Z Z Z Z (fun h0 s0=>news_own hT s0 0 Z Z Z Z) (Cells.single (R:=tNat) (x:=b) rfl) Z (by decide) zom (fun a8 c8 B8 hB8=>?_);refine zC6 ?_;refine WT.callF0 Tryz.func49 Z Z Z Z Z Z (leaf_spec _ t) (fun F2 v hF2 hv=>?_);obtain⟨cs,rfl,hlf⟩:=hv;obtain⟨za,zn,zc,rfl,hza,hzb⟩:=tTree_cases hlf;refine WT.buildT hT Z Z Z Z Z Z Z Z Z Z Z Z Z Z (fun i34 hi34=>?_)
  refine WT.appendG (R:=tTree) (ys:=[.mk (-1) t []]) hT 5 (hy.mono hF2) Z (fun _=>rfl) Z Z Z Z Z Z Z Z Z Z Z (fun h0 s0=>news_own hT s0 0 Z Z Z Z) (Cells.single (R:=tTree) (x:=.mk (-1) t []) hlf) Z (by decide) zom (fun a9 c9 B9 hB9=>?_);refine zC7 ?_;refine AW.freezeAll 4 Z Z (fun F3 hF3 hB3=>?_);have hS:=(hB8.mono hF2).frozen hF3 hB3;refine AW.freezeAll 5 Z Z (fun F4 hF4 hB4=>?_);have hTr:=(hB9.mono hF3).frozen hF4 hB4;have hp4:=((hp1.mono hF2).mono hF3).mono hF4
  refine AW.ret ⟨_,[[(pi,.cells false (ppCells g (p.next a8 (xn+1) c8 a9 (yn+1) c9)))]],⟨_,_,rfl,rfl,rfl⟩,List.Sublist.cons _ (List.Sublist.cons _ (List.Sublist.cons _ (List.Sublist.cons_cons _ (List.Sublist.cons _ (List.Sublist.cons _ (List.Sublist.refl _)))))),_,rfl,.inl ⟨rfl,rfl,b,hsh,⟨hp4.act,hp4.go,hp4.rules,hS.mono hF4,hTr,fun e=>(by simp at e)⟩⟩⟩
theorem tree_spec(F:Frz)(g:Gram)(hg:Valid g){T:Tab}{I:List (List Lr)}{rows:List (List Int)}{la:Nat→Lr→Nat→Prop}(hL:LRT g T I rows la){p:PP}{pi:Nat}{σ:List Nat}{τ:List Tree}(hp:PPOk g T F p σ τ){w:List Nat}{i:Nat}(hs:LStk g (goR g rows) w σ τ i)(hσ:σ.length≤2000000)(hw:w.length≤1000) :
  Abs.Spec CC 21 [.pointer (some ⟨pi,0,none⟩)] F [[(pi,.cells false (ppCells g p))]] fun F' v o=>o=[[(pi,.cells false (ppCells g p))]]∧∃ly e,v=.tuple ⟨[.agg ⟨ly⟩,.int .i64 (e:Nat)]⟩∧
   ((e=0∧∃X,actT T (topS (redN g (goR g rows) (actT T) g.terms 100000 (σ,τ)).1) g.terms=.acc∧(redN g (goR g rows) (actT T) g.terms 100000 (σ,τ)).2=[X]∧TreeOf g w ⟨false,g.start⟩ X 0 i∧tTree.rel F' ly X)∨
    (e=10∧ly=[.int .i64 0,.int .i64 0,.slice none 0 0]∧actT T (topS (redN g (goR g rows) (actT T) g.terms 100000 (σ,τ)).1) g.terms≠.acc)):=by
 have hgt:=hg.range.terms;have hst:=hs.len;unfold ppCells;refine Abs.Spec.fn (n:=26) Tryz.func21 rfl rfl fun own=>?_;refine zC5 ?_;refine WT.allocT hT Z Z Z Z Z Z (fun i2 hi2=>?_);refine zC5 ?_;have hrs:=reduce_spec F g hg hL hp hs hσ hw (pi:=pi) (t:=g.terms) (Nat.le_refl _);have hln:=redN_len (g:=g) (go:=goR g rows) (act:=actT T) g.terms 100000 (σ,τ);have hsN:=hs.redN hL.lr hL.only (t:=g.terms) 100000 (c:=(σ,τ));generalize redN g (goR g rows) (actT T) g.terms 100000 (σ,τ)=cN at hrs hln hsN;obtain⟨σN,τN⟩:=cN;dsimp only at hrs hln hsN ⊢;unfold ppCells at hrs
 refine WT.callF (oin:=[[(pi,.cells false (ppCells g p))]]) Tryz.func48 Z Z Z Z Z Z hrs (List.Perm.swap _ _ _) (fun F1 v oout hF1 hv=>?_);obtain⟨B1,B2,rfl,xa,xn,xc,ya,yn,yc,a,b,rfl,hx,hy,hact⟩:=hv;have hxl:=hx.len;have hyl:=hy.len;have hp1:=hp.mono hF1;refine zC5 ?_;refine WT.allocT hT Z Z Z Z Z Z (fun i7 hi7=>?_);refine zC5 ?_;refine AW.cond Z (fun h=>?_) (fun h=>?_)
 ·have h:a≠3:=by intro e;subst e;simp at h
  refine zC5 ?_;refine AW.le ((own_tr _ _ _ _ _).trans (OwnLe.skip _ oR)) ?_;refine AW.ret ⟨_,[[(pi,.cells false (ppCells g p))]],⟨_,_,⟨_,rfl,fun G h0 s0=>loadA_cells (s0.has (p:=0) Z me) (readT_ok hT rfl)⟩,⟨_,_,rfl,rfl,rfl⟩,rfl⟩,zsb,rfl,_,10,rfl,.inr ⟨rfl,rfl,fun e=>?_⟩⟩;rw[e] at hact;exact h (decA_acc.1 hact)
 ·have h:a=3:=by simp at h;omega
  subst h;have hacc:actT T (topS σN) g.terms=.acc:=actOut_acc.1 (hact.symm.trans rfl);obtain⟨X,rfl,hX⟩:=hsN.acc hL.lr hL.only hacc;refine zC6 ?_;refine WT.gidx (j:=0) hT hy Z Z Z Z Z Z Z Z Z (by rw[hyl];exact Nat.zero_lt_one) (fun b1 hb1=>?_);refine WT.gldS (x:=X) hT 3 hy hb1 Z Z Z Z Z Z Z (fun z hz=>hz) Z Z Z (fun l hl=>?_);obtain⟨r,u,ks⟩:=X;obtain⟨dd,hdd⟩:=id hl;refine WT.callF0 Tryz.func50 Z Z Z Z Z Z (copyTree_spec dd F1 _ _ hdd) (fun F2 v hF2 hv=>?_);obtain⟨cs,rfl,hcs⟩:=hv;obtain⟨za,zn,zc,rfl,hza,hzb⟩:=tTree_cases hcs;refine zC6 ?_
  refine AW.le ((own_tr _ _ _ _ _).trans (OwnLe.skip _ oR)) ?_;exact AW.ret ⟨_,[[(pi,.cells false (ppCells g p))]],⟨_,_,⟨_,rfl,fun G h0 s0=>loadA_cells (s0.has (p:=0) rfl me) (readT_ok hT rfl)⟩,⟨_,_,rfl,rfl,rfl⟩,rfl⟩,zsb,rfl,_,0,rfl,.inl ⟨rfl,_,hacc,rfl,hX,hcs⟩⟩
theorem confAt_step{g:Gram}{go:Nat→Sym→Option Nat}{act:Nat→Nat→Act}{M:Nat}{w:List Nat}{i t:Nat}{c:Conf}(h:confAt g go act M (w.take i).reverse=some c)(ht:w[i]?=some t) :
  (∀s',act (topS (redN g go act t M c).1) t=.shift s'→confAt g go act M (w.take (i+1)).reverse=some ((redN g go act t M c).1++[s'],(redN g go act t M c).2++[.mk (-1) t []]))∧
  ((∀s',act (topS (redN g go act t M c).1) t≠.shift s')→confAt g go act M (w.take (i+1)).reverse=none):=by
 rw[rev_take_succ ht];unfold confAt;rw[h];dsimp only;refine⟨fun s' e=>by rw[e],fun e=>?_⟩;cases ha:act (topS (redN g go act t M c).1) t with
 | shift s'=>exact absurd ha (e s')
 | _=>rfl
theorem chain_spec(F:Frz):Abs.Spec CC 42 [] F [] fun F' v o=>o=[]∧∃a c,v=.agg ⟨gramCells chainG a 2 c⟩∧Arr tRule F' a 2 c chainG.rules:=by
 refine Abs.Spec.fn (n:=10) Tryz.func42 rfl rfl fun own=>?_;refine AW.seq (AW.reg ?_);refine WT.allocT hT Z Z Z Z Z Z (fun i0 hi0=>?_);refine zB7 ?_;refine WT.buildT hT Z Z Z Z Z Z Z Z Z Z Z Z Z Z (fun i3 hi3=>?_);refine zB7 ?_;refine WT.buildT hT Z Z Z Z Z Z Z Z Z Z Z Z Z Z (fun i6 hi6=>?_);refine zB7 ?_;refine WT.buildT hT Z Z Z Z Z Z Z Z Z Z Z Z Z Z (fun i8 hi8=>?_);refine WT.freezeAll 2 Z Z (fun F1 hF1 hB1=>?_);refine WT.freezeAll 1 Z Z (fun F2 hF2 hB2=>?_);refine WT.freezeAll 0 Z Z (fun F3 hF3 hB3=>?_)
 have h5:Arr tSym F3 (some ⟨i3,0,none⟩) 2 2 [⟨true,0⟩,⟨false,0⟩]:=(Bld.frozen (F:=F) (B:=[(i3,.cells false [.bool true,.int .i64 0,.bool false,.int .i64 0])]) ⟨rfl,.inr ⟨i3,_,rfl,rfl,rfl,Cells.cons (R:=tSym) (x:=⟨true,0⟩) (l:=[_,_]) rfl (Cells.single (R:=tSym) (x:=⟨false,0⟩) rfl),by decide⟩⟩ hF1 hB1).mono (hF2.trans hF3);have h8:Arr tSym F3 (some ⟨i6,0,none⟩) 1 2 [⟨true,1⟩]:=(Bld.frozen (F:=F1) (B:=[(i6,.cells false [.bool true,.int .i64 1])]) ⟨rfl,.inr ⟨i6,_,rfl,rfl,rfl,Cells.single (R:=tSym) (x:=⟨true,1⟩) rfl,by decide⟩⟩ hF2 hB2).mono hF3
 have h10:Arr tRule F3 (some ⟨i8,0,none⟩) 2 2 chainG.rules:=Bld.frozen (F:=F3) (B:=[(i8,.cells false [.int .i64 0,.slice (some ⟨i3,0,none⟩) 2 2,.int .i64 0,.slice (some ⟨i6,0,none⟩) 1 2])]) ⟨rfl,.inr ⟨i8,_,rfl,rfl,rfl,Cells.cons (R:=tRule) (x:=⟨0,[⟨true,0⟩,⟨false,0⟩]⟩) (l:=[_,_]) ⟨_,_,_,rfl,h5⟩ (Cells.single (R:=tRule) (x:=⟨0,[⟨true,1⟩]⟩) ⟨_,_,_,rfl,h8⟩),by decide⟩⟩ (Frz.le.refl _) hB3;refine zB7 ?_;exact AW.ret ⟨_,[],⟨_,_,⟨_,rfl,fun G h0 s0=>loadA_cells (s0.has (p:=3) rfl me) (readT_ok hT rfl)⟩,rfl,rfl⟩,zsb,rfl,_,_,rfl,h10⟩
theorem new_spec(F:Frz)(g:Gram)(hg:Valid g)(ht5:g.terms≤5){method:Nat}(hm:method=1∨method=2∨method=3){T:Tab}(hT2:tableF g method=some T)(hc:T.conf=[]){v:Value}(hv:TabV F method T v){a:Option Addr}{m c:Nat}(hr:Arr tRule F a m c g.rules) :
  Abs.Spec CC 16 [v,.agg ⟨gramCells g a m c⟩] F [] fun F' v o=>∃pi p,o=[[(pi,.cells false (ppCells g p))]]∧v=.tuple ⟨[.pointer (some ⟨pi,0,none⟩),.int .i64 0]⟩∧PPOk g T F' p [0] []∧p.read=0:=by
 obtain⟨a1,n1,c1,a2,n2,c2,a3,n3,c3,rfl,h1,h2,h3⟩:=id hv;have hmb:method≤3:=by omega
 have hl3:=h3.len;rw[hc] at hl3;have hl3:n3=0:=hl3;subst hl3;have hrl:=hr.len;have hgr:=hg.range.rules;unfold gramCells;refine Abs.Spec.fn (n:=32) Tryz.func16 rfl rfl fun own=>?_;refine AW.seq (AW.reg ?_);refine WT.boxT Z Z Z Z Z Z (fun i2 hi2=>?_);refine WT.boxT Z Z Z Z Z Z (fun i3 hi3=>?_);refine zB4 ?_;have hck:=tcheck_spec F g hg ht5 hm hT2 hv hr;unfold gramCells at hck;refine WT.callV Tryz.func43 Z Z Z Z Z Z hck (fun v hv=>?_);subst hv;refine zB4 ?_;refine AW.cond Z (fun h=>(by cases h)) (fun _=>?_);refine zB4 ?_;refine AW.cond Z (fun h=>(by cases h)) (fun _=>?_);refine zB4 ?_
 have hof:=of_spec F g hg ht5 method hm hr;unfold gramCells at hof;refine WT.callF0 Tryz.func18 Z Z Z Z Z Z hof (fun F1 v hF1 hv1=>?_);rcases hv1 with ⟨hn,_⟩ | ⟨T',x,hx1,rfl,hx2⟩
 ·rw[hT2] at hn;cases hn
 rw[hT2] at hx1;obtain rfl:=Option.some.inj hx1;obtain⟨b1,m1,d1,b2,m2,d2,b3,m3,d3,rfl,g1,g2,g3⟩:=id hx2;refine zB4 ?_;refine WT.allocT hT Z Z Z Z Z Z (fun i7 hi7=>?_);refine zB4 ?_;refine AW.draw (ps:=[(0,2),(0,3),(1,3)]) Z Z ?_;refine zB4 ?_;have hcp:=copy_spec F1 g (hr.mono hF1) zo (fun r hr=>by have:=(hg.right r hr).2.1;omega);unfold gramCells at hcp;refine WT.callN Tryz.func44 Z Z Z Z Z Z hcp (fun F2 v BG hF2 hv=>?_);obtain⟨ga,gc,rfl,hG⟩:=hv;refine WT.freezeAll 0 Z Z (fun F3 hF3 hB3=>?_);have hG:=hG.frozen hF3 hB3;refine WT.buildT hT Z Z Z Z Z Z Z Z Z Z Z Z Z Z (fun i29 hi29=>?_)
 refine WT.freezeAll 0 Z Z (fun F4 hF4 hB4=>?_);have hS:Arr tNat F4 (some ⟨i29,0,none⟩) 1 1 [0]:=Bld.frozen (F:=F3) (B:=[(i29,.cells false [.int .i64 0])]) ⟨rfl,.inr ⟨i29,_,rfl,rfl,rfl,Cells.single (R:=tNat) (x:=0) rfl,by decide⟩⟩ hF4 hB4;have hF14:=(hF2.trans hF3).trans hF4;refine zB4 ?_;refine WT.boxT Z Z Z Z Z Z (fun i31 hi31=>?_);refine zB4 ?_;refine⟨zrC,?_⟩;refine AW.ret ⟨_,[_],⟨_,_,rfl,⟨_,_,rfl,rfl,rfl⟩,rfl⟩,?_,i31,⟨method,b1,m1,d1,b2,m2,d2,b3,m3,d3,ga,m,gc,some ⟨i29,0,none⟩,1,1,none,0,0,0⟩,rfl,rfl,⟨g1.mono hF14,g2.mono hF14,hG.mono hF4,hS,Arr.nil_ _ _,fun _=>rfl⟩,rfl⟩
 exact List.Sublist.cons_cons _ (by repeat (first | exact List.Sublist.refl _ | refine List.Sublist.cons _ ?_))
structure ShS where
 p:PP
 σ:List Nat
 τ:List Tree
theorem shParse_spec(F:Frz)(g:Gram)(hg:Valid g)(ht5:g.terms≤5){method:Nat}(hm:method=1∨method=2∨method=3){T:Tab}(hT2:tableF g method=some T)(hc:T.conf=[]){I:List (List Lr)}{rows:List (List Int)}{la:Nat→Lr→Nat→Prop}(hL:LRT g T I rows la){v:Value}(hv:TabV F method T v){a:Option Addr}{m c:Nat}(hr:Arr tRule F a m c g.rules)
  {b:Option Addr} {n d:Nat} {w:List Nat} (hw:Arr tNat F b n d w) (hw12:w.length≤12) (hw2:∀t∈w,t<g.terms) :
  Abs.Spec CC 19 [v,.agg ⟨gramCells g a m c⟩,.slice b n d] F [] fun F' v o=>o=[]∧∃ly at_ e,v=.tuple ⟨[.agg ⟨ly⟩,.int .i64 (at_:Nat),.int .i64 (e:Nat)]⟩∧
   ((e=0∧at_=0∧∃X c0,confAt g (goR g rows) (actT T) 100000 w.reverse=some c0∧actT T (topS (redN g (goR g rows) (actT T) g.terms 100000 c0).1) g.terms=.acc∧(redN g (goR g rows) (actT T) g.terms 100000 c0).2=[X]∧TreeOf g w ⟨false,g.start⟩ X 0 w.length∧tTree.rel F' ly X)∨
    (e=10∧ly=[.int .i64 0,.int .i64 0,.slice none 0 0]∧at_<w.length∧(∃c0,confAt g (goR g rows) (actT T) 100000 (w.take at_).reverse=some c0)∧confAt g (goR g rows) (actT T) 100000 (w.take (at_+1)).reverse=none)∨
    (e=10∧ly=[.int .i64 0,.int .i64 0,.slice none 0 0]∧at_=w.length∧∃c0,confAt g (goR g rows) (actT T) 100000 w.reverse=some c0∧actT T (topS (redN g (goR g rows) (actT T) g.terms 100000 c0).1) g.terms≠.acc)):=by
 obtain⟨a1,n1,c1,a2,n2,c2,a3,n3,c3,rfl,h1,h2,h3⟩:=id hv;have hmb:method≤3:=by omega
 have hrl:=hr.len;have hwl:=hw.len;have hgr:=hg.range.rules;unfold gramCells;refine Abs.Spec.fn (n:=61) Tryz.func19 rfl rfl fun own=>?_;refine AW.seq (AW.reg ?_);refine WT.boxT Z Z Z Z Z Z (fun i3 hi3=>?_);refine WT.boxT Z Z Z Z Z Z (fun i4 hi4=>?_);refine WT.allocT hT Z Z Z Z Z Z (fun i6 hi6=>?_);refine zB4 ?_;have hnw:=new_spec F g hg ht5 hm hT2 hc hv hr;unfold gramCells at hnw;refine WT.callF Tryz.func16 Z Z Z Z Z Z hnw (List.Perm.refl _) (fun F1 v oout hF1 hv=>?_);obtain⟨pi,p,rfl,rfl,hp,hp0⟩:=hv;refine zB4 ?_;refine AW.cond Z (fun h=>(by cases h)) (fun _=>?_);refine zB4 ?_
 have hgw:=gword_spec F1 g (a:=a) (m:=m) (c:=c) 2000 (by decide) (hw.mono hF1) zo;rw[wordErr_ok zo hw2] at hgw;unfold gramCells at hgw;refine WT.callV Tryz.func47 Z Z Z Z Z Z hgw (fun v hv=>?_);subst hv;refine zB4 ?_;refine AW.cond Z (fun h=>(by cases h)) (fun _=>?_);refine zB4 ?_;refine AW.range (S:=ShS) (fun _=>[]) (fun s=>[(pi,.cells false (ppCells g s.p))]::[(i6,.cells false [.int .i64 0,.int .i64 0,.slice none 0 0])]::own) (fun j s G=>PPOk g T G s.p s.σ s.τ∧s.p.read=j∧s.σ.length≤1+j*100001∧confAt g (goR g rows) (actT T) 100000 (w.take j).reverse=some (s.σ,s.τ)) n ⟨p,[0],[]⟩
  Z Z Z Z Z Z Z Z Z zo rfl rfl (fun _=>rfl) (fun _=>rfl) sM (OwnLe.cons _ (OwnLe.cons _ (OwnLe.skip _ (OwnLe.skip _ oR)))) ⟨hp,hp0,Nat.le_refl _,rfl⟩ ?_ ?_
 ·intro j s F2 hF2 hj hP;obtain⟨p,σ,τ⟩:=s;obtain⟨hp,hpr,hσ,hcf⟩:=hP;dsimp only at hp hpr hσ hcf ⊢;have hs:=confAt_stk hL.lr hL.only j (w:=w) zo hcf;dsimp only at hs;have hw3:=(hw.mono hF1).mono hF2;refine zB4 ?_;refine WT.idxL hT hw3 Z Z Z Z Z Z Z Z Z zo (fun t htj b1 off1 ro1 cs1 lx1 hb1 hp1 hrel1=>?_);obtain rfl:lx1=_:=hrel1;have htt:=hw2 t (gM htj);obtain⟨hst1,hst2⟩:=confAt_step hcf htj;have hln:=redN_len (g:=g) (go:=goR g rows) (act:=actT T) t 100000 (σ,τ);refine zB4 ?_;have hpt:=put_spec F2 g hg hL hp hs zo zo htt (pi:=pi) zo
  refine WT.callF (oin:=[[(pi,.cells false (ppCells g p))]]) Tryz.func20 Z Z Z Z Z Z hpt (List.Perm.refl _) (fun F3 v oout hF3 hv=>?_);obtain⟨p',rfl,hv⟩:=hv;rcases hv with ⟨rfl,hr1,s',hs1,hok⟩ | ⟨rfl,rfl,hno⟩
  ·refine zB4 ?_;refine AW.cond Z (fun h=>(by cases h)) (fun _=>?_);refine zB4 ?_;refine⟨⟨p',_,_⟩,sM,zow,hok,by dsimp only;omega,?_,hst1 s' hs1⟩;dsimp only;rw[List.length_append,List.length_singleton];dsimp only at hln;omega
  ·refine zB4 ?_;refine AW.cond Z (fun _=>?_) (fun h=>(by cases h));refine zB4 ?_;refine AW.ret ⟨_,[],⟨_,_,⟨_,rfl,fun G h0 s0=>loadA_cells (s0.has (p:=1) Z me) (readT_ok hT rfl)⟩,⟨_,_,rfl,⟨_,_,rfl,rfl,rfl⟩,rfl⟩,rfl⟩,zsb,rfl,_,j,10,rfl,.inr (.inl ⟨rfl,rfl,by omega,⟨_,hcf⟩,hst2 hno⟩)⟩
 ·intro s F2 hF2 hP;obtain⟨p,σ,τ⟩:=s;obtain⟨hp,hpr,hσ,hcf⟩:=hP;dsimp only at hp hpr hσ hcf ⊢;have hs:=confAt_stk hL.lr hL.only n (w:=w) zo hcf;dsimp only at hs;rw[List.take_of_length_le zo] at hcf;refine zB4 ?_;have htr:=tree_spec F2 g hg hL hp hs zo zo (pi:=pi);refine WT.callF (oin:=[[(pi,.cells false (ppCells g p))]]) Tryz.func21 Z Z Z Z Z Z htr (List.Perm.refl _) (fun F3 v oout hF3 hv=>?_);obtain⟨rfl,ly,e,rfl,hv⟩:=hv;rcases hv with ⟨rfl,X,hx1,hx2,hx3,hx4⟩ | ⟨rfl,rfl,hx1⟩
  ·obtain⟨r,u,ks⟩:=X;obtain⟨za,zn,zc,rfl,hza,hzb⟩:=tTree_cases hx4;refine zB4 ?_;refine WT.allocT hT Z Z Z Z Z Z (fun i15 hi15=>?_);refine zB4 ?_;refine AW.cond Z (fun h=>(by cases h)) (fun _=>?_);refine zB4 ?_;rw[hwl] at hx3;refine AW.ret ⟨_,[],⟨_,_,⟨_,rfl,fun G h0 s0=>loadA_cells (s0.has (p:=2) Z me) (readT_ok hT rfl)⟩,⟨_,_,rfl,⟨_,_,rfl,rfl,rfl⟩,rfl⟩,rfl⟩,zsb,rfl,_,0,0,rfl,.inl ⟨rfl,rfl,_,_,hcf,hx1,hx2,hx3,hx4⟩⟩
  ·refine zB4 ?_;refine WT.allocT hT Z Z Z Z Z Z (fun i15 hi15=>?_);refine zB4 ?_;refine AW.cond Z (fun _=>?_) (fun h=>(by cases h));refine zB4 ?_;refine AW.ret ⟨_,[],⟨_,_,⟨_,rfl,fun G h0 s0=>loadA_cells (s0.has (p:=2) Z me) (readT_ok hT rfl)⟩,⟨_,_,rfl,⟨_,_,rfl,rfl,rfl⟩,rfl⟩,rfl⟩,zsb,rfl,_,n,10,rfl,.inr (.inr ⟨rfl,rfl,hwl,_,hcf,hx1⟩)⟩
theorem confAt_less{g:Gram}{go:Nat→Sym→Option Nat}{act:Nat→Nat→Act}{M:Nat}{w:List Nat}:∀(k:Nat) {c:Conf},confAt g go act M w.reverse=some c→confAt g go act M (w.take k).reverse≠none:=by
 have key:∀(d i:Nat),i+d=w.length→confAt g go act M w.reverse≠none→confAt g go act M (w.take i).reverse≠none:=by
  intro d
  induction d with
  | zero=>
   intro i hi h;rw[List.take_of_length_le zo];exact h
  | succ d ih=>
   intro i hi h hn;have h1:=ih (i+1) zo h;have ht:=gE (show i<w.length by omega);rw[rev_take_succ ht] at h1;unfold confAt at h1;rw[hn] at h1;exact h1 rfl
 intro k c h;rcases Nat.lt_or_ge k w.length with hk | hk
 ·exact key (w.length-k) k zo (fun e=>by rw[h] at e;cases e)
 ·rw[List.take_of_length_le hk];intro e;rw[h] at e;cases e
theorem clean_spec(F:Frz)(g:Gram)(hg:Valid g)(ht5:g.terms≤5)(method:Nat)(hm:method=1∨method=2∨method=3){a:Option Addr}{m c:Nat}(hr:Arr tRule F a m c g.rules) :
  Abs.Spec CC 14 [.agg ⟨gramCells g a m c⟩,.int .i64 method] F [] fun F' v o=>o=[]∧∃k a1 n1 c1 a2 n2 c2 a3 n3 c3 b,v=.tuple ⟨[.agg ⟨[.int .i64 (k:Nat),.slice a1 n1 c1,.slice a2 n2 c2,.slice a3 n3 c3]⟩,.bool b]⟩∧
   (b=true→∃T,tableF g method=some T∧T.conf=[]∧TabV F' method T (.agg ⟨[.int .i64 (k:Nat),.slice a1 n1 c1,.slice a2 n2 c2,.slice a3 n3 c3]⟩)):=by
 have hmb:method≤3:=by omega
 unfold gramCells;refine Abs.Spec.fn (n:=23) Tryz.func14 rfl rfl fun own=>?_;refine AW.seq (AW.reg ?_);refine WT.boxT Z Z Z Z Z Z (fun i2 hi2=>?_);refine WT.allocT hT Z Z Z Z Z Z (fun i4 hi4=>?_);refine zB4 ?_;have hof:=of_spec F g hg ht5 method hm hr;unfold gramCells at hof;refine WT.callF0 Tryz.func18 Z Z Z Z Z Z hof (fun F1 v hF1 hv1=>?_);rcases hv1 with ⟨hn,rfl⟩ | ⟨T,x,hT2,rfl,hx⟩
 ·refine zB4 ?_;refine WT.allocT hT Z Z Z Z Z Z (fun i6 hi6=>?_);refine zB4 ?_;refine AW.draw (ps:=[(5,9),(6,9),(7,9)]) Z Z ?_;refine zB4 ?_;refine⟨zrC,?_⟩;exact AW.ret ⟨_,[],⟨_,_,⟨_,rfl,fun G h0 s0=>loadA_cells (s0.has (p:=1) rfl me) (readT_ok hT rfl)⟩,⟨_,_,rfl,rfl,rfl⟩,rfl⟩,zsb,rfl,0,_,_,_,_,_,_,_,_,_,_,rfl,fun h=>(by cases h)⟩
 ·obtain⟨a1,n1,c1,a2,n2,c2,a3,n3,c3,rfl,h1,h2,h3⟩:=id hx;have hl3:=h3.len;refine zB4 ?_;refine WT.allocT hT Z Z Z Z Z Z (fun i6 hi6=>?_);refine zB4 ?_;refine AW.draw (ps:=[(5,9),(6,9),(7,9)]) Z Z ?_;refine zB4 ?_;refine⟨zrC,?_⟩;refine AW.ret ⟨_,[],⟨_,_,⟨_,rfl,fun G h0 s0=>loadA_cells (s0.has (p:=1) Z me) (readT_ok hT rfl)⟩,⟨_,_,rfl,rfl,rfl⟩,rfl⟩,zsb,rfl,method,_,_,_,_,_,_,_,_,_,_,rfl,fun h=>⟨T,hT2,?_,hx⟩⟩;have h:n3=0:=by simp at h;omega
  exact List.eq_nil_of_length_eq_zero zo
theorem shifts_spec(F:Frz):Abs.Spec CC 15 [] F [] fun F' v o=>o=[]∧v=.bool true:=by
 have hgv:=chain_small.valid;obtain⟨T,hT2,hc⟩:=chain_tab;obtain⟨I,rows,la,hL⟩:=lrt_of hgv (by decide) hT2 hc;refine Abs.Spec.fn (n:=50) Tryz.func15 rfl rfl fun own=>?_;refine zB4 ?_;refine WT.callF0 Tryz.func42 Z Z Z Z Z Z (chain_spec F) (fun F1 v hF1 hv=>?_);obtain⟨ga,gc,rfl,hG⟩:=hv;have hof:=of_spec F1 chainG hgv (by decide) 2 (.inr (.inl rfl)) hG;refine WT.callF0 Tryz.func18 Z Z Z Z Z Z hof (fun F2 v hF2 hv1=>?_);rcases hv1 with ⟨hn,rfl⟩ | ⟨T',x,hx1,rfl,hx⟩
 ·rw[hT2] at hn;cases hn
 rw[hT2] at hx1;obtain rfl:=Option.some.inj hx1;obtain⟨a1,n1,c1,a2,n2,c2,a3,n3,c3,rfl,h1,h2,h3⟩:=id hx;refine zB4 ?_;refine WT.allocT hT Z Z Z Z Z Z (fun i1 hi1=>?_);refine zB4 ?_;refine AW.draw (ps:=[(0,1),(0,2),(0,8)]) Z Z ?_;refine zB4 ?_;refine WT.callF0 Tryz.func42 Z Z Z Z Z Z (chain_spec F2) (fun F3 v hF3 hv=>?_);obtain⟨ga2,gc2,rfl,hG2⟩:=hv;refine WT.buildT hT Z Z Z Z Z Z Z Z Z Z Z Z Z Z (fun i17 hi17=>?_);refine WT.freezeAll 0 Z Z (fun F4 hF4 hB4=>?_)
 have hW1:Arr tNat F4 (some ⟨i17,0,none⟩) 2 1 [0,1]:=Bld.frozen (F:=F3) (B:=[(i17,.cells false [.int .i64 0,.int .i64 1])]) ⟨rfl,.inr ⟨i17,_,rfl,rfl,rfl,Cells.cons (R:=tNat) (x:=0) (l:=[_]) rfl (Cells.single (R:=tNat) (x:=1) rfl),by decide⟩⟩ hF4 hB4;have hp1:=shParse_spec F4 chainG hgv (by decide) (.inr (.inl rfl)) hT2 hc hL (hx.mono (hF3.trans hF4)) (hG2.mono hF4) hW1 (by decide) (by decide);refine WT.callF0 Tryz.func19 Z Z Z Z Z Z hp1 (fun F5 v hF5 hv=>?_);obtain⟨ly,at1,e1,rfl,hv⟩:=hv;obtain⟨rfl,rfl,za,zc,rfl⟩:e1=0∧at1=0∧∃za zc,ly=[.int .i64 0,.int .i64 0,.slice za 2 zc]:=by
  obtain⟨c0,q1,q2,q3⟩:=parse_whole hL.lr hL.only (w:=[0,1]) (by decide) chain_tree (M:=100000) (by decide);rcases hv with ⟨rfl,rfl,X,c1,_,_,_,hX,hrel⟩ | ⟨_,_,h4,_,h5⟩ | ⟨_,_,_,c1,h4,h5⟩
  ·have:=lr_one hL.lr hL.only (w:=[0,1]) (by decide) hX chain_tree;subst this;obtain⟨za,zn,zc,rfl,hz,_⟩:=tTree_cases hrel;obtain rfl:zn=2:=hz.len;exact⟨rfl,rfl,za,zc,rfl⟩
  ·exfalso;have h6:∀k,k≤2→confAt chainG (goR chainG rows) (actT T) 100000 (List.take k [0,1]).reverse≠none:=fun k hk=>confAt_less k q1;exact h6 _ (by have:at1<2:=h4;omega) h5
  ·exfalso;rw[q1] at h4;obtain rfl:=Option.some.inj h4;exact h5 q3
 refine zB4 ?_;refine WT.allocT hT Z Z Z Z Z Z (fun i3 hi3=>?_);refine zB4 ?_;refine⟨zrC,?_⟩;refine zB4 ?_;refine AW.draw (ps:=[(0,1),(0,2),(0,8)]) Z Z ?_;refine zB4 ?_;refine WT.callF0 Tryz.func42 Z Z Z Z Z Z (chain_spec F5) (fun F6 v hF6 hv=>?_);obtain⟨ga3,gc3,rfl,hG3⟩:=hv;refine WT.buildT hT Z Z Z Z Z Z Z Z Z Z Z Z Z Z (fun i25 hi25=>?_);refine WT.freezeAll 0 Z Z (fun F7 hF7 hB7=>?_)
 have hW2:Arr tNat F7 (some ⟨i25,0,none⟩) 2 1 [1,0]:=Bld.frozen (F:=F6) (B:=[(i25,.cells false [.int .i64 1,.int .i64 0])]) ⟨rfl,.inr ⟨i25,_,rfl,rfl,rfl,Cells.cons (R:=tNat) (x:=1) (l:=[_]) rfl (Cells.single (R:=tNat) (x:=0) rfl),by decide⟩⟩ hF7 hB7;have hp2:=shParse_spec F7 chainG hgv (by decide) (.inr (.inl rfl)) hT2 hc hL (hx.mono ((hF3.trans hF4).trans (hF5.trans (hF6.trans hF7)))) (hG3.mono hF7) hW2 (by decide) (by decide);refine WT.callF0 Tryz.func19 Z Z Z Z Z Z hp2 (fun F8 v hF8 hv=>?_);obtain⟨ly2,at2,e2,rfl,hv⟩:=hv
 obtain⟨rfl,rfl,rfl⟩:e2=10∧at2=1∧ly2=[.int .i64 0,.int .i64 0,.slice none 0 0]:=by
  obtain⟨c0,q1,_⟩:=parse_whole hL.lr hL.only (w:=[1]) (by decide) chain_one (M:=100000) (by decide);have q2:confAt chainG (goR chainG rows) (actT T) 100000 (List.take 2 [1,0]).reverse=none:=by
   cases hcc:confAt chainG (goR chainG rows) (actT T) 100000 (List.take 2 [1,0]).reverse with
   | none=>rfl
   | some c=>
    exfalso;have hs:=confAt_stk hL.lr hL.only 2 (w:=[1,0]) (by decide) hcc;obtain⟨v,hv⟩:=hs.viable hgv hL.auto (fun n hn=>chain_word hn) (by decide);have:=chain_ends hv rfl;simp at this
  rcases hv with ⟨rfl,rfl,X,c1,h4,_⟩ | ⟨h3,h4,h5,_,h6⟩ | ⟨_,_,_,c1,h4,h5⟩
  ·exfalso;have h4:confAt chainG (goR chainG rows) (actT T) 100000 (List.take 2 [1,0]).reverse=some c1:=h4;rw[q2] at h4;cases h4
  ·refine⟨h3,?_,h4⟩;have h5:at2<2:=h5
   match at2,h5,h6 with
   | 0,_,h6=>
    have h6:confAt chainG (goR chainG rows) (actT T) 100000 (List.reverse [1])=none:=h6;rw[q1] at h6;cases h6
   | 1,_,_=>rfl
  ·exfalso;have h4:confAt chainG (goR chainG rows) (actT T) 100000 (List.take 2 [1,0]).reverse=some c1:=h4;rw[q2] at h4;cases h4
 refine zB4 ?_;refine WT.allocT hT Z Z Z Z Z Z (fun i6 hi6=>?_);refine zB4 ?_;refine⟨zrC,?_⟩;refine zB5 ?_;exact AW.ret ⟨_,[],⟨_,_,rfl,rfl,rfl⟩,zsb,rfl,rfl⟩
theorem prod1_spec(F:Frz){ie:Nat}{ro:Bool}{ea:Option Addr}{en ec:Nat}{E:List Bool}(hi:F ie=some (.cells ro [.slice ea en ec]))(hE:Arr tBool F ea en ec E)(y:Sym)(hy:y.term=true∨y.n<E.length) :
  Abs.Spec CC 56 [.agg ⟨[.bool y.term,.int .i64 y.n]⟩,.pointer (some ⟨ie,0,none⟩)] F [] fun _ v o=>o=[]∧v=.bool (!y.term&&!(E.getD y.n false)):=by
 have hEl:=hE.len;refine Abs.Spec.fn (n:=15) Tryz.func56 rfl rfl fun own=>?_;exact shE10
def PrInv(g:Gram)(has:List Bool):Prop:=has.length=g.nons∧∀n,has[n]?=some true→HasWord g n
theorem set_bool(s:List Bool)(i:Nat)(b:Bool):(s.map cBool.cell).set (0+i*1) (.bool b)=(s.set i b).map cBool.cell:=by
 rw[List.map_set,Nat.zero_add,Nat.mul_one];rfl
theorem productive_spec(F:Frz)(g:Gram)(hg:Valid g){a:Option Addr}{m c:Nat}(hr:Arr tRule F a m c g.rules) :
  Abs.Spec CC 27 [.agg ⟨gramCells g a m c⟩] F [] fun F' v o=>o=[]∧∃b,v=.bool b∧(b=true→∀n,n<g.nons→HasWord g n):=by
 have hrl:=hr.len;have hgr:=hg.range.rules;have hgn:=hg.range.nons;unfold gramCells;refine Abs.Spec.fn (n:=41) Tryz.func27 rfl rfl fun own=>?_;refine AW.seq (AW.reg ?_);refine WT.boxT Z Z Z Z Z Z (fun i1 hi1=>?_);refine zC4 ?_;refine WT.makeT (l:=g.nons) hT Z Z Z Z Z Z Z Z Z Z Z Z zom (fun io hio=>?_);rw[cap_eq,if_neg (show ¬g.nons=0 by omega)];refine WT.allocT hT Z Z Z Z Z Z (fun i3 hi3=>?_);refine zC4 ?_
 refine AW.range (S:=List Bool) (fun _=>[]) (fun s=>[(i3,.cells false [.slice (some ⟨io,0,none⟩) g.nons 1]),(io,.cells false (s.map cBool.cell))]::[(i1,.cells false [.int .i64 g.terms,.int .i64 g.nons,.int .i64 g.start,.slice a m c])]::own) (fun _ s G=>PrInv g s) g.nons (List.replicate g.nons false)
  Z Z Z Z Z Z Z Z Z zo rfl rfl (fun _=>rfl) (fun _=>rfl) sM (by rw[List.map_replicate];exact OwnLe.flat (List.Perm.refl _)) ⟨by simp,fun n h=>(by rw[List.getElem?_replicate] at h;split at h<;>cases h)⟩ ?_ ?_
 ·intro j s F1 hF1 hj hP;have hr1:=hr.mono hF1;refine zC4 ?_;refine AW.range (S:=List Bool) (fun _=>[]) (fun s=>[(i3,.cells false [.slice (some ⟨io,0,none⟩) g.nons 1]),(io,.cells false (s.map cBool.cell))]::[(i1,.cells false [.int .i64 g.terms,.int .i64 g.nons,.int .i64 g.start,.slice a m c])]::own) (fun _ s G=>PrInv g s) m s
   Z Z Z Z Z Z Z Z Z zo rfl rfl (fun _=>rfl) (fun _=>rfl) sM oR hP ?_ ?_
  ·intro k s F2 hF2 hk hP;obtain⟨hsl,hsw⟩:=hP;have hr2:=hr1.mono hF2;refine zC4 ?_;refine WT.idxL hT hr2 Z Z Z Z Z Z Z Z Z zo (fun r hrk b1 off1 ro1 cs1 lx1 hb1 hp1 hrel1=>?_);obtain⟨ra,rn,rc,rfl,hright⟩:=hrel1;have hrm:=gM hrk;obtain⟨hrlt,hr4,hrsy⟩:=hg.right r hrm;have hrnl:=hright.len;obtain⟨b,hb⟩:∃b,s[r.left]?=some b:=⟨_,gE zo⟩;have hcell:(s.map cBool.cell)[0+r.left*1]?=some (.bool b):=by rw[Nat.zero_add,Nat.mul_one,List.getElem?_map,hb];rfl
   refine zC4 ?_;refine WT.allocT hT Z Z Z Z Z Z (fun i5 hi5=>?_);refine zC4 ?_;refine AW.draw (ps:=[(0,12),(2,12)]) Z Z ?_;refine zC4 ?_;refine WT.idxA (j:=r.left) (s:=1) hT Z Z Z Z Z Z Z Z Z hrlt ?_;refine WT.loadAt hT 1 Z Z Z Z Z Z (List.mem_cons_of_mem _ me) Z Z hcell ?_;cases b with
   | true=>
    refine zC4 ?_;refine WT.idxA (j:=r.left) (s:=1) hT Z Z Z Z Z Z Z Z Z hrlt ?_;refine WT.storeAt hT 1 1 Z Z Z Z Z Z Z Z Z Z (by rw[List.length_map];omega) Z Z ?_;refine zC4 ?_;refine⟨(by repeat (first | exact trivial | refine recs_pair rfl rfl (by first | exact keep0 | exact kp 1 1 me me | exact kp 0 0 me me) ?_)),?_⟩
    refine⟨s.set r.left true,sM,?_,by rw[List.length_set];exact hsl,fun n hn=>?_⟩
    ·rw[set_bool];exact zow
    ·by_cases e:n=r.left
     ·subst e;exact hsw _ hb
     ·rw[List.getElem?_set_ne (Ne.symm e)] at hn;exact hsw n hn
   | false=>
    refine zC4 ?_;have hys:∀y∈r.right,y.term=true∨y.n<s.length:=fun y hy=>by
     have:=hrsy y hy;obtain⟨t,q⟩:=y;cases t with
     | true=>exact .inl rfl
     | false=>exact .inr (by rw[hsl];exact this)
    refine WT.callLend 1 Tryz.func55 Z Z Z Z Z Z Z (fun G hG hBG=>symAny_spec G (hright.mono hG) zo (fun y=>!y.term&&!(s.getD y.n false)) (first:=[]) (capt:=[.pointer (some ⟨i3,0,none⟩)]) Tryz.func56 Z (fun y hy=>prod1_spec G (hBG i3 _ me) (by
     have:=arr_of_cells (K:=cBool) (R:=tBool) (F:=G) (id:=io) (row:=s) (c:=if s.length=0 then 0 else 1) (ro:=false) rfl (fun _ _=>rfl) rfl (hBG io _ (by simp));rw[hsl,if_neg zo] at this;exact this) y (hys y hy))) (fun v hv=>?_)
    subst hv;refine zC4 ?_;refine WT.idxA (j:=r.left) (s:=1) hT Z Z Z Z Z Z Z Z Z hrlt ?_;refine WT.storeAt hT 1 1 Z Z Z Z Z Z Z Z Z Z (by rw[List.length_map];omega) Z Z ?_;refine zC4 ?_;refine⟨(by repeat (first | exact trivial | refine recs_pair rfl rfl (by first | exact keep0 | exact kp 1 1 me me | exact kp 0 0 me me) ?_)),?_⟩
    refine⟨s.set r.left (!(r.right.any fun y=>!y.term&&!(s.getD y.n false))),sM,?_,by rw[List.length_set];exact hsl,fun n hn=>?_⟩
    ·rw[set_bool];exact zow
    ·by_cases e:n=r.left
     ·subst e;rw[List.getElem?_set_self zo] at hn;have hn:=Option.some.inj hn;refine hasWord_rule hrm fun y hy=>?_;have h1:r.right.any (fun y=>!y.term&&!(s.getD y.n false))=false:=by simpa using hn
      have h2:=List.any_eq_false.1 h1 y hy;rcases hys y hy with h3 | h3
      ·exact .inl h3
      ·by_cases h4:y.term=true
       ·exact .inl h4
       ·refine .inr (hsw _ ?_);have h5:s.getD y.n false=true:=by simpa [h4] using h2
        rw[gE h3];rw[List.getD_eq_getElem?_getD,gE h3] at h5;exact congrArg some h5
     ·rw[List.getElem?_set_ne (Ne.symm e)] at hn;exact hsw n hn
  ·intro s F2 hF2 hP;exact⟨s,sM,zow,hP⟩
 ·intro s F1 hF1 hP;obtain⟨hsl,hsw⟩:=hP;refine zC4 ?_
  refine WT.callLend 0 Tryz.func57 Z Z Z Z Z Z Z (fun G hG hBG=>boolContains_spec G (by
   have:=arr_of_cells (K:=cBool) (R:=tBool) (F:=G) (id:=io) (row:=s) (c:=if s.length=0 then 0 else 1) (ro:=false) rfl (fun _ _=>rfl) rfl (hBG io _ (by simp));rw[hsl,if_neg zo] at this;exact this) zo false) (fun v hv=>?_)
  subst hv;refine zC4 ?_;refine AW.ret ⟨_,[],⟨_,_,rfl,rfl,rfl⟩,zsb,rfl,_,rfl,fun h n hn=>hsw n ?_⟩;have h:false∉s:=by simpa using h
  obtain⟨b,hb⟩:∃b,s[n]?=some b:=⟨_,gE zo⟩;cases b with
  | true=>exact hb
  | false=>exact absurd (gM hb) h
theorem qp_next{g:Gram}{v:List Nat}(h4:∀r∈g.rules,r.right.length≤4)(hW:∀r∈g.rules,∀y∈r.right,y.term=true∨HasWord g y.n){x:Item}(hx:QP g v v.length x){t:Nat}(hn:nextOf g.rules x=some ⟨true,t⟩) :
  ∃u,Der g (v++t::u) ⟨false,g.start⟩ 0 (v++t::u).length:=by
 obtain⟨L,hL⟩:=items_list g h4 (Via g v) (fun k x h=>by obtain⟨r,h1,h2,h3,_⟩:=h;exact⟨r,h1,h2,h3⟩);have hS:=via_sets hW hL;have h1:=hx.2 (Nat.le_refl _) L (by rw[List.take_length];exact hS);obtain⟨r,h2,h3,_,_,z,hz⟩:=(hL _ _).1 h1;obtain⟨r',h5,h6⟩:=nextOf_some hn;rw[h2] at h5;obtain rfl:=Option.some.inj h5;obtain⟨u,hu⟩:=hasWord_list (g:=g) (r.right.drop (x.dot+1)) (fun y hy=>hW r (gM h2) y (List.mem_of_mem_drop hy));have:=hz ([t]++u) (by
  rw[drop_at h6];exact DW.app (l:=[⟨true,t⟩]) (.one (.term rfl)) hu)
 rw[List.take_length,List.append_assoc] at this;exact⟨u++z,this⟩
theorem lz_q2{g:Gram}{Q:Nat→Item→Prop}{q:ChP}{F:Frz}{s:SSt}(h:SOk g Q q F s){j:Nat}{x:Item}(hx:x∈LZ s j):Q j x:=by
 unfold LZ at hx;rw[List.getD_eq_getElem?_getD] at hx;cases hl:s.lists[j]? with
 | none=>rw[hl] at hx;simp at hx
 | some l=>rw[hl] at hx;exact h.all j l hl x hx
theorem feed_goes{g:Gram}(hg:Valid g){F:Frz}{f:FZ}(hf:ZOk g F f){t:Nat}:(∃x∈LZ f.s f.s.k,nextOf (trimmed f.E g).rules x=some ⟨true,t⟩)↔∃u,Der g (f.w++t::u) ⟨false,g.start⟩ 0 (f.w++t::u).length:=by
 constructor
 ·rintro⟨x,h1,h2⟩;have hq:=lz_q2 hf.chart h1;rw[hf.k] at hq;obtain⟨u,hu⟩:=qp_next (trim_right hg f.E) (trim_words hf.ends) hq h2;exact⟨u,der_more_trim hu⟩
 ·rintro⟨u,hu⟩;have h1:=(der_trimmed hf.ends.closed hu).1;obtain⟨y,h2,h3⟩:=earley_viable hf.sets (w:=f.w++t::u) (t:=t) (by simp) (by simp) h1;rw[←hf.k] at h2;exact⟨y,h2,h3⟩
theorem der_terms{g:Gram}(hg:Valid g){w:List Nat}{s:Sym}{i j:Nat}(h:Der g w s i j):SymOk g.terms g.nons s→∀p,i≤p→p<j→∃t,w[p]?=some t∧t<g.terms:=by
 refine Der.rec (motive_1:=fun s i j _=>SymOk g.terms g.nons s→∀p,i≤p→p<j→∃t,w[p]?=some t∧t<g.terms) (motive_2:=fun l i j _=>(∀y∈l,SymOk g.terms g.nons y)→∀p,i≤p→p<j→∃t,w[p]?=some t∧t<g.terms) ?_ ?_ ?_ ?_ h
 ·intro t i h hs p h1 h2;obtain rfl:p=i:=by omega
  exact⟨t,h,hs⟩
 ·intro r i j hr _ ih _;exact ih (hg.right r hr).2.2
 ·intro i _ p h1 h2;omega
 ·intro s l i m j _ _ ih1 ih2 hs p h1 h2;rcases Nat.lt_or_ge p m with h3 | h3
  ·exact ih1 (hs _ me) p h1 h3
  ·exact ih2 (fun y hy=>hs y (List.mem_cons_of_mem _ hy)) p h3 h2
theorem word_terms{g:Gram}(hg:Valid g){w:List Nat}(h:Der g w ⟨false,g.start⟩ 0 w.length):∀t∈w,t<g.terms:=fun t ht=>by
 obtain⟨p,hp⟩:=List.getElem?_of_mem ht;have hlt:=(gS hp).1;obtain⟨t',h1,h2⟩:=der_terms hg h (show SymOk g.terms g.nons ⟨false,g.start⟩ from hg.range.start) p (Nat.zero_le _) hlt;rw[hp] at h1;obtain rfl:=Option.some.inj h1;exact h2
theorem below3(x:Int):1+below x 3=1∨1+below x 3=2∨1+below x 3=3:=by
 have:=below_lt x (m:=3) (by decide);omega
theorem shiftPrefix_law(F:Frz)(hLd:Laid F){a b:Option Addr}{m n c d:Nat}{l w0:List Int}(hl:Arr tInt F a m c l)(hw0:Arr tInt F b n d w0)(hm:n≤9223372036854775807)(z:Int) :
  Abs.Spec CC 6 [.slice a m c,.slice b n d,.int .i64 z] F [] fun _ v o=>o=[]∧v=.bool true:=by
 refine Abs.Spec.fn (n:=113) Tryz.func6 rfl rfl fun own=>?_;refine zB4 ?_;refine WT.callF0 Tryz.func9 Z Z Z Z Z Z (made_spec _ hl hw0 hm 10 (by decide)) (fun F1 v hF1 hv=>?_);obtain⟨g,ga,gm,gc,wa,wn,wc,w,rfl,hg,hr,hw,hw1,hw2⟩:=hv;have hL1:=hLd.mono hF1;have hgv:=hg.valid;have hgt:=hg.terms;have hwl:=hw.len;have hmd:=below3 z;unfold gramCells;refine zC4 ?_;refine WT.allocT hT Z Z Z Z Z Z (fun i7 hi7=>?_);refine zC4 ?_;refine AW.draw (ps:=[(0,2),(0,8),(3,8)]) Z Z ?_;refine zC4 ?_;refine WT.callV Tryz.func24 Z Z Z Z Z Z (below_spec _ z 3 (by decide) (by decide)) (fun v hv=>?_);subst hv
 have hb3:=below_lt z (m:=3) (by decide);generalize below z 3=q at hb3 hmd;refine zC4 ?_;refine WT.know (v':=.int .i64 ((1+q:Nat):Int)) 28 Z (congrArg (Value.int .i64) zo) ?_;have hcl:=clean_spec F1 g hgv zo (1+q) hmd hr;unfold gramCells at hcl;refine WT.callF0 Tryz.func14 Z Z Z Z Z Z hcl (fun F2 v hF2 hv=>?_);obtain⟨tk,a1,n1,c1,a2,n2,c2,a3,n3,c3,bb,rfl,hbb⟩:=hv;have hL2:=hL1.mono hF2;have hr2:=hr.mono hF2;have hw3:=hw.mono hF2;refine zC4 ?_;refine WT.allocT hT Z Z Z Z Z Z (fun i8 hi8=>?_);refine zC4 ?_;refine⟨zrC,?_⟩;refine zC4 ?_
 refine WT.callF0 Tryz.func15 Z Z Z Z Z Z (shifts_spec F2) (fun F3 v hF3 hv=>?_);subst hv;have hL3:=hL2.mono hF3;have hr4:=hr2.mono hF3;have hw4:=hw3.mono hF3;cases bb with
 | false=>
  refine zC4 ?_;refine AW.cond Z (fun _=>?_) (fun h=>(by cases h));refine zC4 ?_;refine WT.callF0 Tryz.func15 Z Z Z Z Z Z (shifts_spec F3) (fun F4 v hF4 hv=>?_);subst hv;refine zC4 ?_;exact AW.ret ⟨_,[],⟨_,_,rfl,rfl,rfl⟩,zsb,rfl,rfl⟩
 | true=>
  obtain⟨T,hT2,hTc,hTV⟩:=hbb rfl;obtain⟨I,rows,la,hL⟩:=lrt_of hgv zo hT2 hTc;refine zC4 ?_;have hpv:=productive_spec F3 g hgv hr4;unfold gramCells at hpv;refine WT.callF0 Tryz.func27 Z Z Z Z Z Z hpv (fun F4 v hF4 hv=>?_);obtain⟨pb,rfl,hpb⟩:=hv;have hL4:=hL3.mono hF4;have hr5:=hr4.mono hF4;have hw5:=hw4.mono hF4;cases pb with
  | false=>
   refine zC4 ?_;refine AW.cond Z (fun _=>?_) (fun h=>(by cases h));refine zC4 ?_;refine WT.callF0 Tryz.func15 Z Z Z Z Z Z (shifts_spec F4) (fun F5 v hF5 hv=>?_);subst hv;refine zC4 ?_;exact AW.ret ⟨_,[],⟨_,_,rfl,rfl,rfl⟩,zsb,rfl,rfl⟩
  | true=>
   have hP:=hpb rfl;refine zC4 ?_;refine AW.cond Z (fun h=>(by cases h)) (fun _=>?_);refine zC4 ?_;have hpp:=shParse_spec F4 g hgv zo hmd hT2 hTc hL ((hTV.mono hF3).mono hF4) hr5 hw5 zo hw2;unfold gramCells at hpp;refine WT.callF0 Tryz.func19 Z Z Z Z Z Z hpp (fun F5 v hF5 hv=>?_);obtain⟨ly,at1,e1,rfl,hv⟩:=hv;have hL5:=hL4.mono hF5;have hr6:=hr5.mono hF5;have hw6:=hw5.mono hF5;have hreads:∀i t,w[i]?=some t→confAt g (goR g rows) (actT T) 100000 (w.take (i+1)).reverse≠none→∃u,Der g (w.take i++t::u) ⟨false,g.start⟩ 0 (w.take i++t::u).length:=fun i t ht h=>by
    have hi:=(gS ht).1;cases hc:confAt g (goR g rows) (actT T) 100000 (w.take (i+1)).reverse with
    | none=>exact absurd hc h
    | some c=>
     obtain⟨u,hu⟩:=(confAt_stk hL.lr hL.only (i+1) (w:=w) zo hc).viable hgv hL.auto hP zo;have e:w.take (i+1)++u=w.take i++t::u:=by
      rw[List.take_add_one,ht];simp
     rw[e] at hu;exact⟨u,hu⟩
   rcases hv with ⟨rfl,rfl,X,cf,_,_,_,_,hrel⟩ | hv
   ·obtain⟨r,u,ks⟩:=X;obtain⟨za,zn,zc,rfl,_,_⟩:=tTree_cases hrel;refine zC4 ?_;refine WT.allocT hT Z Z Z Z Z Z (fun i10 hi10=>?_);refine zC4 ?_;refine AW.cond Z (fun _=>?_) (fun h=>(by cases h));refine zC4 ?_;exact AW.ret ⟨_,[],⟨_,_,rfl,rfl,rfl⟩,zsb,rfl,rfl⟩
   ·obtain⟨rfl,rfl,hat,hsome⟩:e1=10∧ly=[.int .i64 0,.int .i64 0,.slice none 0 0]∧at1≤w.length∧confAt g (goR g rows) (actT T) 100000 (w.take at1).reverse≠none:=by
     rcases hv with ⟨h1,h2,h3,⟨c0,h4⟩,_⟩ | ⟨h1,h2,h3,c0,h4,_⟩
     ·exact⟨h1,h2,by omega,fun e=>by rw[h4] at e;cases e⟩
     ·exact⟨h1,h2,by omega,fun e=>by rw[h3,List.take_length,h4] at e;cases e⟩
    refine zC4 ?_;refine WT.allocT hT Z Z Z Z Z Z (fun i10 hi10=>?_);refine zC4 ?_;refine AW.cond Z (fun h=>(by cases h)) (fun _=>?_);refine zC4 ?_;have hzn:=zNew_spec F5 g hgv hr6;unfold gramCells at hzn;refine WT.callN Tryz.func28 Z Z Z Z Z Z hzn (fun F6 v B6 hF6 hvz=>?_);obtain⟨f0,rfl,rfl,hf0,hfw0⟩:=hvz;have hw7:=hw6.mono hF6;have hL6:=hL5.mono hF6;refine zC4 ?_;refine AW.cond Z (fun h=>(by exfalso;simp at h;omega)) (fun _=>?_);refine zC4 ?_;obtain⟨sa,sc,hs,hsl⟩:=hw7.slice (C:=CC) (lo:=0) (hi:=at1) (Nat.zero_le _) zo hT (t:=22) Z Z Z none (some (.int .i64 (at1:Nat))) rfl (by simp[boundA])
    refine WT.slice Z Z Z Z Z Z Z Z hs ?_;rw[List.drop_zero] at hsl;refine zC4 ?_;refine AW.range (S:=FZ) (fun _=>[]) (fun f=>zB g f::[(i10,.cells false [.int .i64 0,.int .i64 0,.slice none 0 0])]::[(i8,.cells false [.int .i64 tk,.slice a1 n1 c1,.slice a2 n2 c2,.slice a3 n3 c3])]::[(i7,.cells false [.int .i64 g.terms,.int .i64 g.nons,.int .i64 g.start,.slice ga gm gc])]::own) (fun j f G=>ZOk g G f∧f.w=w.take j∧f.fi=f0.fi) (at1-0) f0
     Z Z Z Z Z Z Z Z Z zo rfl rfl (fun _=>rfl) (fun _=>rfl) sM oR ⟨hf0,by rw[hfw0,List.take_zero],rfl⟩ ?_ ?_
    ·intro j f F7 hF7 hj hPf;obtain⟨hf,hfw,hfi⟩:=hPf;have hsl7:=hsl.mono hF7;have hsll:=hsl7.len;refine zC4 ?_;refine WT.idxL hT hsl7 Z Z Z Z Z Z Z Z Z zo (fun y hy b5 off5 ro5 cs5 lx5 hb5 hp5 hrel5=>?_);obtain rfl:lx5=_:=hrel5;rw[List.getElem?_take_of_lt zo] at hy;have hyt:=hw2 y (gM hy);have hgo:∃u,Der g (f.w++y::u) ⟨false,g.start⟩ 0 (f.w++y::u).length:=by
      rw[hfw];refine hreads j y hy ?_;cases hc:confAt g (goR g rows) (actT T) 100000 (w.take at1).reverse with
      | none=>exact absurd hc hsome
      | some c0=>
       have:=confAt_less (j+1) hc
       rwa [List.take_take,Nat.min_eq_left zo] at this
     refine zC4 ?_;have pspec:=zPut_spec F7 g hgv hf (by rw[hfw,List.length_take];omega) y hyt;rw[hfi] at pspec;refine WT.call1F 0 Tryz.func29 Z Z Z Z Z Z Z (fun _=>rfl) pspec (fun F8 v B8 hF8 hv8=>?_);obtain⟨f',rfl,hf',hfi',_,hcase⟩:=hv8;rcases hcase with ⟨_,rfl,hfw'⟩ | ⟨hno,_,_⟩
     ·refine zC4 ?_;refine AW.cond Z (fun h=>(by cases h)) (fun _=>?_);refine zC4 ?_;refine⟨f',sM,zow,hf',?_,hfi'⟩;rw[hfw',hfw,List.take_add_one,hy];rfl
     ·exact absurd ((feed_goes hgv hf).2 hgo) hno
    ·intro f F7 hF7 hPf;obtain⟨hf,hfw,hfi⟩:=hPf;rw[Nat.sub_zero] at hfw;have hw8:=hw7.mono hF7;have hL7:=hL6.mono hF7;have hfl:f.w.length=at1:=by rw[hfw,List.length_take];omega
     refine zC4 ?_
     refine WT.callLendN (P:=fun v B'=>∃a' c' xs,v=.slice a' (g.terms+1) c'∧Vec tBool F7 a' (g.terms+1) c' B' xs∧NextZ g f xs) 0 Tryz.func30 Z Z Z Z Z Z Z (fun G hG hBG=>Spec.mono (hfi▸zNext_spec G (hL7.mono hG) g hgv (hf.mono hG) zo hBG) (fun F' v o _ hv=>by
      obtain⟨B',e,a2,c2,xs,e2,hv,hx⟩:=hv;exact⟨B',e,a2,c2,xs,e2,Vec.boolAny hv,hx⟩)) (fun v BN hvn=>?_)
     obtain⟨va2,vc2,xs1,rfl,hva2,hxs1⟩:=hvn;refine WT.freezeAll 0 Z Z (fun F8 hF8 hB8=>?_);have hna:=hva2.arr hF8 hB8;have hf8:=hf.mono hF8;have hw9:=hw8.mono hF8;refine zC4 ?_;refine AW.cond Z (fun h=>?_) (fun h=>?_)
     ·have h:at1=wn:=by simp at h;omega
      have hnd:derives g f.w g.start 0 f.w.length=false:=by
       cases hd:derives g f.w g.start 0 f.w.length with
       | false=>rfl
       | true=>
        exfalso;rw[derives_iff,hfw,List.take_of_length_le zo] at hd;obtain⟨X,hX⟩:=Der.tree hd;obtain⟨X',q1,q2⟩:=tree_small hg hX;obtain⟨c,q3,_,q4⟩:=parse_whole hL.lr hL.only hw2 q1 (M:=100000) zo;rcases hv with ⟨_,_,h3,_⟩ | ⟨_,_,_,c1,h4,h5⟩
        ·omega
        ·rw[q3] at h4;obtain rfl:=Option.some.inj h4;exact h5 q4
      have hxl:=hxs1.len;refine zC7 ?_;refine WT.know (v':=.bool true) 98 Z (by congr 1;simp) ?_;refine zC7 ?_;refine WT.idxL hT hna Z Z Z Z Z Z Z Z Z zo (fun y hy b5 off5 ro5 cs5 lx5 hb5 hp5 hrel5=>?_);obtain rfl:lx5=_:=hrel5;obtain rfl:y=false:=by rw[hxs1.done,hnd] at hy;exact(Option.some.inj hy).symm
      refine zC7 ?_;exact AW.ret ⟨_,[],⟨_,_,rfl,rfl,rfl⟩,zsb,rfl,rfl⟩
     ·have h:at1<w.length:=by simp at h;omega
      have hfi7:f.fi=f0.fi:=hfi;refine zC7 ?_;refine WT.idxL hT hw9 Z Z Z Z Z Z Z Z Z zo (fun y hy b5 off5 ro5 cs5 lx5 hb5 hp5 hrel5=>?_);obtain rfl:lx5=_:=hrel5;have hyt:=hw2 y (gM hy);refine zC7 ?_;have pspec:=zPut_spec F8 g hgv hf8 zo y hyt;rw[hfi] at pspec;refine WT.call1F 1 Tryz.func29 Z Z Z Z Z Z Z (fun _=>rfl) pspec (fun F9 v B9 hF9 hv9=>?_);obtain⟨f',rfl,hf',hfi',_,hcase⟩:=hv9;rcases hcase with ⟨hyes,rfl,hfw'⟩ | ⟨hno,rfl,_⟩
      ·exfalso;obtain⟨u,hu⟩:=(feed_goes hgv hf8).1 hyes;rw[hfw] at hu;obtain⟨c0,hc0⟩:=conf_reads hg hP hL.lr hL.only (word_terms hgv hu) hu (p:=at1) (by simp;omega) zo;have e:(w.take at1++y::u).take (at1+1)=w.take (at1+1):=by
        rw[List.take_add_one (l:=w),hy];rw[List.take_append,List.length_take,Nat.min_eq_left zo,List.take_of_length_le (by rw[List.length_take];omega)];simp
       rw[e] at hc0;rcases hv with ⟨_,_,_,_,h6⟩ | ⟨_,_,h6,_⟩
       ·rw[hc0] at h6;cases h6
       ·omega
      ·refine zC7 ?_;exact AW.ret ⟨_,[],⟨_,_,rfl,rfl,rfl⟩,zsb,rfl,rfl⟩
end Go.Proofs.D